/- What the rows need, part 4. No condition. -/
import Derived.Test.YtmnjnkcooofgjaaQHuC
namespace Go.Proofs.Ytmnjnkcooofgjaa
namespace V
open Enc (enc)
set_option linter.unusedVariables false
set_option linter.unusedSimpArgs false
set_option maxHeartbeats 4000000
set_option maxRecDepth 100000
open Go.RowKit
attribute [local irreducible] thA inA FinA eL
structure I_Heap where
  pages : List I_Page
deriving DecidableEq
structure I_Rid where
  page : Int
  slot : Int
deriving DecidableEq
def m_I_ValidHeap_k1 (N : Nat) : Option (Bool) :=
  some true
def m_I_ValidHeap_b1 (N : Nat) (p_h : I_Heap) (i2 : Int) : Option (Int ⊕ (Unit ⊕ Bool)) :=
  cond (decide (i2 < (p_h.pages.length : Int)))
    ((ixI p_h.pages i2).bind fun x17 =>
    (m_I_ValidPage N x17).bind fun r19 =>
    cond r19
      ((chk (i2 + (1 : Int))).bind fun n22 =>
      some (.inl n22))
      (some (.inr (.inr false))))
    (some (.inr (.inl ())))
def m_I_ValidHeap (N : Nat) (p_h : I_Heap) : Option (Bool) :=
  cond (decide ((6 : Int) < (p_h.pages.length : Int)))
    (some false)
    ((loopM (β := Unit ⊕ Bool) (fun s : Int => m_I_ValidHeap_b1 N p_h s) N (0 : Int)).bind fun o => match o with
    | .inl e =>
      m_I_ValidHeap_k1 N 
    | .inr v =>
      some v)
theorem w_I_ValidHeap (N : Nat) (p_h : I_Heap) (r : Bool) (hh0 : m_I_ValidHeap N p_h = some r) : FnX Try.prog 25 [] [.agg [sL p_h.pages]] (RE (bA r) []) := by
  unfold m_I_ValidHeap at hh0; refine FnX.mk Try.func25 rfl rfl ?_; intro s hs; refine PC.seq ?_; refine PC.region ?_; refine PL.ef rfl (Ef.box rfl rfl rfl) ?_; refine PL.nm (.op 0 0) [some ⟨.mx [sL p_h.pages], 30, 0⟩] rfl rfl ?_; refine PL.op rfl (Rd.asnT rfl) ?_; refine PL.nil ?_; refine thA_n ?_; (iterate 2 refine PC.seq ?_); refine PC.region ?_; refine PL.op rfl (Rd.fieldO rfl rfl) ?_; refine PL.op rfl (Rd.loadO rfl rfl rfl) ?_; refine PL.op rfl (Rd.lenT rfl) ?_; refine PL.op rfl (Rd.gtr rfl rfl) ?_; refine PL.nil ?_; refine thA_n ?_; rcases cond_some hh0 with ⟨h_1, hh0⟩ | ⟨h_1, hh0⟩
  · refine PC.cond_true rfl h_1 ?_; refine PC.seq ?_; refine PC.region ?_; refine PL.op rfl (Rd.asnT rfl) ?_; refine PL.nil ?_; refine thA_n ?_; refine PC.ret ?_; refine thA_r ?_; obtain rfl := some_in hh0; exact FinA.mk (r := bA false) (bl := []) [] (.inl rfl) rfl (rl := [.tmp 2]) (.tmp .nil) rfl rfl rfl (.t _) trivial ⟨rfl, rfl⟩
  refine PC.cond_false rfl h_1 ?_; refine PC.skip ?_; refine thA_n ?_; (iterate 2 refine PC.seq ?_); refine PC.region ?_; refine PL.op rfl (Rd.fieldO rfl rfl) ?_; refine PL.op rfl (Rd.loadO rfl rfl rfl) ?_; refine PL.op rfl (Rd.lenT rfl) ?_; refine PL.op rfl (Rd.moveT rfl) ?_; refine PL.nil ?_; refine thA_n ?_; obtain ⟨o11, h_12, hh0⟩ := bind_some hh0; refine PC.cutE hs (fun x : Unit => []) (fun x => []) (fun x => m_I_ValidHeap_k1 N  = some r) ?_ ?_
  · refine PC.block ?_; refine PC.loop hs (fun x : Nat × (Int) => [(10, sL p_h.pages), (11, iA (p_h.pages.length : Int)), (12, iA x.2)]) (fun x => []) (fun x => loopM (β := Unit ⊕ Bool) (fun s : Int => m_I_ValidHeap_b1 N p_h s) x.1 x.2 = some o11) (fun x => x.1) (N, (0 : Int)) [] ⟨rfl, rfl, trivial, ⟨.t _, .t _, .t _, trivial⟩⟩ h_12 ?_
    rintro ⟨f13_, i2⟩ h_15
    obtain ⟨f13, y14, rfl, hh1, kk1⟩ := loopM_some h_15
    replace hh1 : m_I_ValidHeap_b1 N p_h i2 = some y14 := hh1
    unfold m_I_ValidHeap_b1 at hh1; refine PC.seq ?_; refine PC.region ?_; refine PL.op rfl (Rd.lss rfl rfl) ?_; refine PL.nil ?_; refine thA_n ?_; refine PC.seq ?_; rcases cond_some hh1 with ⟨h_16, hh1⟩ | ⟨h_16, hh1⟩; rotate_left
    · refine PC.cond_false rfl h_16 ?_; refine PC.exit ?_; (iterate 2 refine thA_e ?_); refine inA_eq rfl ?_; refine thA_n ?_; obtain rfl := some_in hh1; obtain rfl : (.inl () : Unit ⊕ Bool) = o11 := kk1; exact ⟨(), hh0, [], ⟨rfl, rfl, trivial, trivial⟩⟩
    refine PC.cond_true rfl h_16 ?_; refine PC.skip ?_; refine thA_n ?_; refine PC.seq ?_; refine PC.block ?_; refine PC.seq ?_; obtain ⟨x17, h_18, hh1⟩ := bind_some hh1; refine PC.region ?_; refine PL.op rfl (Rd.ixM rfl rfl h_18) ?_; refine PL.op rfl (Rd.elMR rfl h_18 rfl rfl) ?_; refine PL.ef rfl (Ef.alloc rfl rfl) ?_; refine PL.nm (.op 0 0) [some ⟨.mx [.t (.v (.slice none 0 0))], 50, 0⟩] rfl rfl ?_; refine PL.store rfl rfl rfl rfl rfl rfl rfl ?_; refine PL.nO [some ⟨.mx [sL x17.slots], 50, 0⟩] rfl ?_; refine PL.nil ?_; refine thA_n ?_; refine PC.seq ?_; obtain ⟨r19, h_20, hh1⟩ := bind_some hh1; refine PC.region ?_; refine PL.op rfl (Rd.loadBox rfl rfl rfl) ?_; refine PL.callM false [] (w_I_ValidPage N x17 r19 h_20) rfl Try.call41 rfl ⟨.aggL ⟨.t _, trivial⟩, trivial⟩ rfl trivial (fun h => by cases h) ?_; refine PL.op rfl (Rd.unnot rfl) ?_; refine PL.nil ?_; refine thA_n ?_; rcases cond_some hh1 with ⟨h_21, hh1⟩ | ⟨h_21, hh1⟩
    · refine PC.cond_false rfl (not_t h_21) ?_; refine PC.skip ?_; refine inA_n ?_; refine thA_n ?_; obtain ⟨n22, h_23, hh1⟩ := bind_some hh1; refine PC.region ?_; refine PL.op rfl (Rd.addM rfl rfl h_23) ?_; refine PL.op rfl (Rd.moveT rfl) ?_; refine PL.nil ?_; obtain rfl := some_in hh1; refine thA_n ?_; exact ⟨(f13, n22), Nat.lt_succ_self _, kk1, [], ⟨rfl, rfl, trivial, ⟨.t _, .t _, .t _, trivial⟩⟩⟩
    refine PC.cond_true rfl (not_f h_21) ?_; refine PC.seq ?_; refine PC.region ?_; refine PL.op rfl (Rd.asnT rfl) ?_; refine PL.nil ?_; refine thA_n ?_; refine PC.ret ?_; refine inA_r ?_; (iterate 2 refine thA_r ?_); refine inA_r ?_; refine thA_r ?_; obtain rfl := some_in hh1; obtain rfl : (.inr false : Unit ⊕ Bool) = o11 := kk1; refine thA_r ?_; obtain rfl := some_in hh0; exact FinA.mk (r := bA false) (bl := []) [] (.inl rfl) rfl (rl := [.tmp 2]) (.tmp .nil) rfl rfl rfl (.t _) trivial ⟨rfl, rfl⟩
  clear hh0
  rintro ⟨⟩ hh0
  replace hh0 : m_I_ValidHeap_k1 N  = some r := hh0
  unfold m_I_ValidHeap_k1 at hh0; refine thA_n ?_; refine PC.seq ?_; refine PC.region ?_; refine PL.op rfl (Rd.asnT rfl) ?_; refine PL.nil ?_; refine thA_n ?_; refine PC.ret ?_; obtain rfl := some_in hh0; exact FinA.mk (r := bA true) (bl := []) [] (.inl rfl) rfl (rl := [.tmp 2]) (.tmp .nil) rfl rfl rfl (.t _) trivial ⟨rfl, rfl⟩
def m_I_Heap_clone_k1 (N : Nat) (v12 : (List I_Page)) : Option (I_Heap) :=
  some (I_Heap.mk v12)
def m_I_Heap_clone_b1 (N : Nat) (p_h : I_Heap) (i1 : Int) (v2 : (List I_Page)) : Option ((Int × (List I_Page)) ⊕ (List I_Page)) :=
  cond (decide (i1 < (p_h.pages.length : Int)))
    ((ixI p_h.pages i1).bind fun x19 =>
    (m_I_Page_clone N x19).bind fun r21 =>
    (appM 24 v2 [r21]).bind fun xs23 =>
    (chk (i1 + (1 : Int))).bind fun n25 =>
    some (.inl (n25, xs23)))
    (some (.inr v2))
def m_I_Heap_clone (N : Nat) (p_h : I_Heap) : Option (I_Heap) :=
  (loopM (β := (List I_Page)) (fun s : Int × (List I_Page) => m_I_Heap_clone_b1 N p_h s.1 s.2) N ((0 : Int), ([] : List I_Page))).bind fun e =>
  m_I_Heap_clone_k1 N e
theorem w_I_Heap_clone (N : Nat) (p_h : I_Heap) (r : I_Heap) (hh0 : m_I_Heap_clone N p_h = some r) : FnX Try.prog 28 [] [.agg [sL p_h.pages]] (RE (.agg [.os 0 0 r.pages.length]) [⟨.mx (dL 1 0 r.pages), 50, 1⟩, ⟨.fm (fam r.pages), 70, 2⟩]) := by
  unfold m_I_Heap_clone at hh0; refine FnX.mk Try.func28 rfl rfl ?_; intro s hs; refine PC.seq ?_; refine PC.region ?_; refine PL.ef rfl (Ef.box rfl rfl rfl) ?_; refine PL.nm (.op 0 0) [some ⟨.mx [sL p_h.pages], 30, 0⟩] rfl rfl ?_; refine PL.ef rfl (Ef.alloc rfl rfl) ?_; refine PL.nm (.op 1 0) [some ⟨.mx [sL p_h.pages], 30, 0⟩, some ⟨.mx [.t (.v (.slice none 0 0))], 30, 0⟩] rfl rfl ?_; refine PL.nil ?_; refine thA_n ?_; refine PC.seq ?_; refine PC.region ?_; refine PL.ef rfl (Ef.alloc rfl rfl) ?_; refine PL.nm (.op 2 0) [some ⟨.mx [sL p_h.pages], 30, 0⟩, some ⟨.mx [.t (.v (.slice none 0 0))], 30, 0⟩, some ⟨.mx [.t (.v (.slice none 0 0))], 30, 0⟩] rfl rfl ?_; refine PL.nil ?_; refine thA_n ?_; (iterate 2 refine PC.seq ?_); refine PC.region ?_; refine PL.op rfl (Rd.fieldO rfl rfl) ?_; refine PL.op rfl (Rd.loadO rfl rfl rfl) ?_; refine PL.op rfl (Rd.lenT rfl) ?_; refine PL.op rfl (Rd.moveT rfl) ?_; refine PL.nil ?_; refine thA_n ?_; obtain ⟨o13, h_14, hh0⟩ := bind_some hh0; refine PC.cutE hs (fun x : (List I_Page) => [(2, .op 0 0), (3, .op 1 0)]) (fun x => [⟨.mx [.t (.v (.slice none 0 0))], 30, 0⟩, ⟨.mx [.os 2 0 x.length], 30, 0⟩, ⟨.mx (dL 3 0 x), 50, 1⟩, ⟨.fm (fam x), 70, 2⟩]) (fun x => m_I_Heap_clone_k1 N x = some r) ?_ ?_
  · refine PC.block ?_; refine PC.loop hs (fun x : Nat × (Int × (List I_Page)) => [(2, .op 0 0), (3, .op 1 0), (7, sL p_h.pages), (8, iA (p_h.pages.length : Int)), (9, iA x.2.1)]) (fun x => [⟨.mx [.t (.v (.slice none 0 0))], 30, 0⟩, ⟨.mx [.os 2 0 x.2.2.length], 30, 0⟩, ⟨.mx (dL 3 0 x.2.2), 50, 1⟩, ⟨.fm (fam x.2.2), 70, 2⟩]) (fun x => loopM (β := (List I_Page)) (fun s : Int × (List I_Page) => m_I_Heap_clone_b1 N p_h s.1 s.2) x.1 x.2 = some o13) (fun x => x.1) (N, ((0 : Int), ([] : List I_Page))) [some 1, some 2, none, none] ⟨rfl, rfl, ⟨⟨_, rfl, rfl, rfl, .mx ⟨.t _, trivial⟩⟩, ⟨_, rfl, rfl, rfl, .mx ⟨.osn rfl, trivial⟩⟩, rfl, rfl, trivial⟩, ⟨.op rfl, .op rfl, .t _, .t _, .t _, trivial⟩⟩ h_14 ?_
    rintro ⟨f15_, i1, v2⟩ h_17
    obtain ⟨f15, y16, rfl, hh1, kk1⟩ := loopM_some h_17
    replace hh1 : m_I_Heap_clone_b1 N p_h i1 v2 = some y16 := hh1
    unfold m_I_Heap_clone_b1 at hh1; refine PC.seq ?_; refine PC.region ?_; refine PL.op rfl (Rd.lss rfl rfl) ?_; refine PL.nil ?_; refine thA_n ?_; refine PC.seq ?_; rcases cond_some hh1 with ⟨h_18, hh1⟩ | ⟨h_18, hh1⟩; rotate_left
    · refine PC.cond_false rfl h_18 ?_; refine PC.exit ?_; (iterate 2 refine thA_e ?_); refine inA_eq rfl ?_; refine thA_n ?_; obtain rfl := some_in hh1; obtain rfl : (v2 : (List I_Page)) = o13 := kk1; exact ⟨v2, hh0, [some 0, some 1, some 2, some 3], ⟨rfl, rfl, ⟨⟨_, rfl, rfl, rfl, .mx ⟨.t _, trivial⟩⟩, ⟨_, rfl, rfl, rfl, .mx ⟨.os rfl, trivial⟩⟩, ⟨_, rfl, rfl, rfl, .mx (sb_dL rfl 0 _)⟩, ⟨_, rfl, rfl, rfl, .fm _⟩, trivial⟩, ⟨.op rfl, .op rfl, trivial⟩⟩⟩
    refine PC.cond_true rfl h_18 ?_; refine PC.skip ?_; refine thA_n ?_; refine PC.seq ?_; refine PC.block ?_; refine PC.seq ?_; obtain ⟨x19, h_20, hh1⟩ := bind_some hh1; refine PC.region ?_; refine PL.op rfl (Rd.ixM rfl rfl h_20) ?_; refine PL.op rfl (Rd.elMR rfl h_20 rfl rfl) ?_; refine PL.ef rfl (Ef.alloc rfl rfl) ?_; refine PL.nm (.op 4 0) [some ⟨.mx [.t (.v (.slice none 0 0))], 30, 0⟩, some ⟨.mx [.os 2 0 v2.length], 30, 0⟩, some ⟨.mx (dL 3 0 v2), 50, 1⟩, some ⟨.fm (fam v2), 70, 2⟩, some ⟨.mx [.t (.v (.slice none 0 0))], 50, 0⟩] rfl rfl ?_; refine PL.store rfl rfl rfl rfl rfl rfl rfl ?_; refine PL.nO [some ⟨.mx [.t (.v (.slice none 0 0))], 30, 0⟩, some ⟨.mx [.os 2 0 v2.length], 30, 0⟩, some ⟨.mx (dL 3 0 v2), 50, 1⟩, some ⟨.fm (fam v2), 70, 2⟩, some ⟨.mx [sL x19.slots], 50, 0⟩] rfl ?_; refine PL.nil ?_; refine thA_n ?_; obtain ⟨r21, h_22, hh1⟩ := bind_some hh1; obtain ⟨xs23, h_24, hh1⟩ := bind_some hh1; refine PC.any (id := 5) 5 (.seg [0, 1, 2, 3, 4] .done) [] rfl (by kernel_rfl) rfl ?_; refine PT.seg ?_; refine PR.op rfl (Rd.fieldO rfl rfl) ?_; refine PR.op rfl (Rd.loadO rfl rfl rfl) ?_; refine PR.op rfl (Rd.loadBox rfl rfl rfl) ?_; refine PR.callM false [] (w_I_Page_clone N x19 r21 h_22) rfl Try.call43 rfl ⟨.aggL ⟨.t _, trivial⟩, trivial⟩ rfl trivial (fun h => by cases h) rfl ?_; refine PR.nm (.agg [.os 5 0 r21.slots.length]) [some ⟨.mx [.t (.v (.slice none 0 0))], 30, 0⟩, some ⟨.mx [.os 2 0 v2.length], 30, 0⟩, some ⟨.mx (dL 3 0 v2), 50, 1⟩, some ⟨.fm (fam v2), 70, 2⟩, some ⟨.mx [sL x19.slots], 50, 0⟩, some ⟨.tr (eL r21.slots), 70, 2⟩] rfl rfl ?_; refine PR.ef rfl rfl (Ef.lit (cs := [.os 5 0 r21.slots.length]) [_] rfl rfl (by decide) rfl rfl rfl rfl) ?_; refine PR.nm (.os 6 0 1) [some ⟨.mx [.t (.v (.slice none 0 0))], 30, 0⟩, some ⟨.mx [.os 2 0 v2.length], 30, 0⟩, some ⟨.mx (dL 3 0 v2), 50, 1⟩, some ⟨.fm (fam v2), 70, 2⟩, some ⟨.mx [sL x19.slots], 50, 0⟩, some ⟨.tr (eL r21.slots), 70, 2⟩, some ⟨.mx [.os 5 0 r21.slots.length], 50, 1⟩] rfl rfl ?_; refine PR.nil ?_; refine PT.done ?_; refine PL.apD hs r21 rfl rfl rfl rfl rfl rfl rfl rfl rfl rfl rfl rfl rfl rfl rfl rfl rfl rfl h_24 ?_; refine PL.nm (.os 7 0 xs23.length) [some ⟨.mx [.t (.v (.slice none 0 0))], 30, 0⟩, some ⟨.mx [.os 2 0 v2.length], 30, 0⟩, none, none, some ⟨.mx [sL x19.slots], 50, 0⟩, none, some ⟨.mx [.os 5 0 r21.slots.length], 50, 1⟩, some ⟨.mx (dL 8 0 xs23), 50, 1⟩, some ⟨.fm (fam xs23), 70, 2⟩] rfl rfl ?_; refine PL.op rfl (Rd.fieldO rfl rfl) ?_; refine PL.store rfl rfl rfl rfl rfl rfl rfl ?_; refine PL.nO [some ⟨.mx [.t (.v (.slice none 0 0))], 30, 0⟩, some ⟨.mx [.os 7 0 xs23.length], 30, 0⟩, none, none, some ⟨.mx [sL x19.slots], 50, 0⟩, none, some ⟨.mx [.os 5 0 r21.slots.length], 50, 1⟩, some ⟨.mx (dL 8 0 xs23), 50, 1⟩, some ⟨.fm (fam xs23), 70, 2⟩] rfl ?_; refine PL.nil ?_; refine inA_n ?_; refine thA_n ?_; obtain ⟨n25, h_26, hh1⟩ := bind_some hh1; refine PC.region ?_; refine PL.op rfl (Rd.addM rfl rfl h_26) ?_; refine PL.op rfl (Rd.moveT rfl) ?_; refine PL.nil ?_; obtain rfl := some_in hh1; refine thA_n ?_; exact ⟨(f15, (n25, xs23)), Nat.lt_succ_self _, kk1, [some 0, some 1, some 7, some 8], ⟨rfl, rfl, ⟨⟨_, rfl, rfl, rfl, .mx ⟨.t _, trivial⟩⟩, ⟨_, rfl, rfl, rfl, .mx ⟨.os rfl, trivial⟩⟩, ⟨_, rfl, rfl, rfl, .mx (sb_dL rfl 0 _)⟩, ⟨_, rfl, rfl, rfl, .fm _⟩, trivial⟩, ⟨.op rfl, .op rfl, .t _, .t _, .t _, trivial⟩⟩⟩
  clear hh0
  rintro v12 hh0
  replace hh0 : m_I_Heap_clone_k1 N v12 = some r := hh0
  unfold m_I_Heap_clone_k1 at hh0; refine thA_n ?_; refine PC.seq ?_; refine PC.region ?_; refine PL.op rfl (Rd.loadBox rfl rfl rfl) ?_; refine PL.store rfl rfl rfl rfl rfl rfl rfl ?_; refine PL.nO [some ⟨.mx [.os 2 0 v12.length], 30, 0⟩, some ⟨.mx [.os 2 0 v12.length], 30, 0⟩, some ⟨.mx (dL 3 0 v12), 50, 1⟩, some ⟨.fm (fam v12), 70, 2⟩] rfl ?_; refine PL.nil ?_; refine thA_n ?_; refine PC.ret ?_; obtain rfl := some_in hh0; exact FinA.mk (r := .agg [.os 0 0 v12.length]) (bl := [⟨.mx (dL 1 0 v12), 50, 1⟩, ⟨.fm (fam v12), 70, 2⟩]) [some 2, some 3] (.inl rfl) rfl (rl := [.cell 2 30]) (.cellN rfl rfl rfl rfl .nil) rfl rfl rfl (.aggL ⟨.os rfl, trivial⟩) ⟨⟨_, rfl, rfl, rfl, .mx (sb_dL rfl 0 _)⟩, ⟨_, rfl, rfl, rfl, .fm _⟩, trivial⟩ ⟨rfl, rfl⟩
def m_I_HeapInsert_k1 (N : Nat) (p_data : ByteArray) (r4 : (I_Heap)) : Option (I_Heap × I_Rid × Bool) :=
  (m_I_PutSlot N (I_Page.mk ([] : List I_Slot)) p_data).bind fun r20 =>
  cond r20.2.2
    (cond (decide ((r4.pages.length : Int) = (6 : Int)))
      (some ((I_Heap.mk ([] : List I_Page)), (I_Rid.mk (0 : Int) (0 : Int)), false))
      ((appM 24 r4.pages [r20.1]).bind fun xs24 =>
      (chk ((xs24.length : Int) - (1 : Int))).bind fun n26 =>
      some ((I_Heap.mk xs24), (I_Rid.mk n26 r20.2.1), true)))
    (some ((I_Heap.mk ([] : List I_Page)), (I_Rid.mk (0 : Int) (0 : Int)), false))
def m_I_HeapInsert_b1 (N : Nat) (p_data : ByteArray) (r4 : (I_Heap)) (i6 : Int) : Option (Int ⊕ (Unit ⊕ (I_Heap × I_Rid × Bool))) :=
  cond (decide (i6 < (r4.pages.length : Int)))
    ((ixI r4.pages i6).bind fun x29 =>
    (m_I_PutSlot N x29 p_data).bind fun r31 =>
    cond r31.2.2
      (some (.inr (.inr ((I_Heap.mk (r4.pages.set i6.toNat r31.1)), (I_Rid.mk i6 r31.2.1), true))))
      ((chk (i6 + (1 : Int))).bind fun n34 =>
      some (.inl n34)))
    (some (.inr (.inl ())))
def m_I_HeapInsert (N : Nat) (p_h : I_Heap) (p_data : ByteArray) : Option (I_Heap × I_Rid × Bool) :=
  (m_I_ValidHeap N p_h).bind fun r1 =>
  cond r1
    ((m_I_Heap_clone N p_h).bind fun r4 =>
    (loopM (β := Unit ⊕ (I_Heap × I_Rid × Bool)) (fun s : Int => m_I_HeapInsert_b1 N p_data r4 s) N (0 : Int)).bind fun o => match o with
    | .inl e =>
      m_I_HeapInsert_k1 N p_data r4 
    | .inr v =>
      some v)
    (some ((I_Heap.mk ([] : List I_Page)), (I_Rid.mk (0 : Int) (0 : Int)), false))
theorem w_I_HeapInsert (N : Nat) (p_h : I_Heap) (p_data : ByteArray) (r : I_Heap × I_Rid × Bool) (hh0 : m_I_HeapInsert N p_h p_data = some r) : FnX Try.prog 15 [] [.agg [sL p_h.pages], sA p_data] (RE (.tup [.agg [.os 0 0 r.1.pages.length], .agg [iA r.2.1.page, iA r.2.1.slot], bA r.2.2]) [⟨.mx (dL 1 0 r.1.pages), 50, 1⟩, ⟨.fm (fam r.1.pages), 70, 2⟩]) := by
  unfold m_I_HeapInsert at hh0; refine FnX.mk Try.func15 rfl rfl ?_; intro s hs; refine PC.seq ?_; refine PC.region ?_; refine PL.ef rfl (Ef.box rfl rfl rfl) ?_; refine PL.nm (.op 0 0) [some ⟨.mx [sL p_h.pages], 30, 0⟩] rfl rfl ?_; refine PL.ef rfl (Ef.alloc rfl rfl) ?_; refine PL.nm (.op 1 0) [some ⟨.mx [sL p_h.pages], 30, 0⟩, some ⟨.mx [.t (.v (.slice none 0 0))], 30, 0⟩] rfl rfl ?_; refine PL.ef rfl (Ef.alloc rfl rfl) ?_; refine PL.nm (.op 2 0) [some ⟨.mx [sL p_h.pages], 30, 0⟩, some ⟨.mx [.t (.v (.slice none 0 0))], 30, 0⟩, some ⟨.mx [iA (0 : Int), iA (0 : Int)], 34, 0⟩] rfl rfl ?_; refine PL.op rfl (Rd.asnT rfl) ?_; refine PL.nil ?_; refine thA_n ?_; (iterate 2 refine PC.seq ?_); obtain ⟨r1, h_2, hh0⟩ := bind_some hh0; refine PC.region ?_; refine PL.op rfl (Rd.loadBox rfl rfl rfl) ?_; refine PL.callM false [] (w_I_ValidHeap N p_h r1 h_2) rfl Try.call25 rfl ⟨.aggL ⟨.t _, trivial⟩, trivial⟩ rfl trivial (fun h => by cases h) ?_; refine PL.op rfl (Rd.unnot rfl) ?_; refine PL.nil ?_; refine thA_n ?_; rcases cond_some hh0 with ⟨h_3, hh0⟩ | ⟨h_3, hh0⟩; rotate_left
  · refine PC.cond_true rfl (not_f h_3) ?_; refine PC.seq ?_; refine PC.region ?_; (iterate 2 refine PL.op rfl (Rd.build rfl rfl rfl rfl) ?_); (iterate 2 refine PL.store rfl rfl rfl rfl rfl rfl rfl ?_); refine PL.op rfl (Rd.asnT rfl) ?_; refine PL.nil ?_; refine thA_n ?_; refine PC.ret ?_; refine thA_r ?_; obtain rfl := some_in hh0; exact FinA.mk (r := .tup [.agg [.os 0 0 ((((I_Heap.mk ([] : List I_Page)), (I_Rid.mk (0 : Int) (0 : Int)), false).1.pages).length)], .agg [iA (((I_Heap.mk ([] : List I_Page)), (I_Rid.mk (0 : Int) (0 : Int)), false).2.1.page), iA (((I_Heap.mk ([] : List I_Page)), (I_Rid.mk (0 : Int) (0 : Int)), false).2.1.slot)], bA (((I_Heap.mk ([] : List I_Page)), (I_Rid.mk (0 : Int) (0 : Int)), false).2.2)]) (bl := [⟨.mx (dL 1 0 (((I_Heap.mk ([] : List I_Page)), (I_Rid.mk (0 : Int) (0 : Int)), false).1.pages)), 50, 1⟩, ⟨.fm (fam (((I_Heap.mk ([] : List I_Page)), (I_Rid.mk (0 : Int) (0 : Int)), false).1.pages)), 70, 2⟩]) [none, none] (.inl rfl) rfl (rl := [.cell 4 30, .cell 5 34, .tmp 6]) (.cellN rfl rfl rfl rfl (.cellN rfl rfl rfl rfl (.tmp .nil))) rfl rfl rfl (.tupL ⟨.aggL ⟨.osn rfl, trivial⟩, .aggL ⟨.t _, .t _, trivial⟩, .t _, trivial⟩) ⟨rfl, rfl, trivial⟩ ⟨rfl, rfl⟩
  refine PC.cond_false rfl (not_t h_3) ?_; refine PC.skip ?_; refine thA_n ?_; refine PC.seq ?_; obtain ⟨r4, h_5, hh0⟩ := bind_some hh0; refine PC.region ?_; refine PL.op rfl (Rd.loadBox rfl rfl rfl) ?_; refine PL.callM false [] (w_I_Heap_clone N p_h r4 h_5) rfl Try.call28 rfl ⟨.aggL ⟨.t _, trivial⟩, trivial⟩ rfl trivial (fun h => by cases h) ?_; refine PL.nm (.agg [.os 3 0 r4.pages.length]) [some ⟨.mx [sL p_h.pages], 30, 0⟩, some ⟨.mx [.t (.v (.slice none 0 0))], 30, 0⟩, some ⟨.mx [iA (0 : Int), iA (0 : Int)], 34, 0⟩, some ⟨.mx (dL 4 0 r4.pages), 50, 1⟩, some ⟨.fm (fam r4.pages), 70, 2⟩] rfl (by (conv => rhs; rw [show dL 4 0 r4.pages = AV.renL (thet [] 3) (dL 1 0 r4.pages) from (dL_ren (thet [] 3) 1 0 r4.pages).symm]); rfl) ?_; refine PL.ef rfl (Ef.alloc rfl rfl) ?_; refine PL.nm (.op 5 0) [some ⟨.mx [sL p_h.pages], 30, 0⟩, some ⟨.mx [.t (.v (.slice none 0 0))], 30, 0⟩, some ⟨.mx [iA (0 : Int), iA (0 : Int)], 34, 0⟩, some ⟨.mx (dL 4 0 r4.pages), 50, 1⟩, some ⟨.fm (fam r4.pages), 70, 2⟩, some ⟨.mx [.t (.v (.slice none 0 0))], 30, 0⟩] rfl rfl ?_; refine PL.store rfl rfl rfl rfl rfl rfl rfl ?_; refine PL.nO [some ⟨.mx [sL p_h.pages], 30, 0⟩, some ⟨.mx [.t (.v (.slice none 0 0))], 30, 0⟩, some ⟨.mx [iA (0 : Int), iA (0 : Int)], 34, 0⟩, some ⟨.mx (dL 4 0 r4.pages), 50, 1⟩, some ⟨.fm (fam r4.pages), 70, 2⟩, some ⟨.mx [.os 3 0 r4.pages.length], 30, 0⟩] rfl ?_; refine PL.nil ?_; refine thA_n ?_; (iterate 2 refine PC.seq ?_); refine PC.region ?_; refine PL.op rfl (Rd.fieldO rfl rfl) ?_; refine PL.op rfl (Rd.loadO rfl rfl rfl) ?_; refine PL.op rfl (Rd.lenO rfl rfl) ?_; refine PL.op rfl (Rd.moveT rfl) ?_; refine PL.nil ?_; refine thA_n ?_; obtain ⟨o15, h_16, hh0⟩ := bind_some hh0; refine PC.cutE hs (fun x : Unit => [(1, sA p_data), (4, .op 0 0), (5, .op 1 0), (7, .op 2 0)]) (fun x => [⟨.mx [.t (.v (.slice none 0 0))], 30, 0⟩, ⟨.mx [iA (0 : Int), iA (0 : Int)], 34, 0⟩, ⟨.mx [.os 3 0 r4.pages.length], 30, 0⟩, ⟨.mx (dL 4 0 r4.pages), 50, 1⟩, ⟨.fm (fam r4.pages), 70, 2⟩]) (fun x => m_I_HeapInsert_k1 N p_data r4  = some r) ?_ ?_
  · refine PC.block ?_; refine PC.loop hs (fun x : Nat × (Int) => [(1, sA p_data), (4, .op 0 0), (5, .op 1 0), (7, .op 2 0), (24, .os 3 0 r4.pages.length), (25, iA (r4.pages.length : Int)), (26, iA x.2)]) (fun x => [⟨.mx [.t (.v (.slice none 0 0))], 30, 0⟩, ⟨.mx [iA (0 : Int), iA (0 : Int)], 34, 0⟩, ⟨.mx [.os 3 0 r4.pages.length], 30, 0⟩, ⟨.mx (dL 4 0 r4.pages), 50, 1⟩, ⟨.fm (fam r4.pages), 70, 2⟩]) (fun x => loopM (β := Unit ⊕ (I_Heap × I_Rid × Bool)) (fun s : Int => m_I_HeapInsert_b1 N p_data r4 s) x.1 x.2 = some o15) (fun x => x.1) (N, (0 : Int)) [some 1, some 2, some 5, some 3, some 4] ⟨rfl, rfl, ⟨⟨_, rfl, rfl, rfl, .mx ⟨.t _, trivial⟩⟩, ⟨_, rfl, rfl, rfl, .mx ⟨.t _, .t _, trivial⟩⟩, ⟨_, rfl, rfl, rfl, .mx ⟨.os rfl, trivial⟩⟩, ⟨_, rfl, rfl, rfl, .mx (sb_dL rfl 0 _)⟩, ⟨_, rfl, rfl, rfl, .fm _⟩, trivial⟩, ⟨.t _, .op rfl, .op rfl, .op rfl, .os rfl, .t _, .t _, trivial⟩⟩ h_16 ?_
    rintro ⟨f17_, i6⟩ h_19
    obtain ⟨f17, y18, rfl, hh1, kk1⟩ := loopM_some h_19
    replace hh1 : m_I_HeapInsert_b1 N p_data r4 i6 = some y18 := hh1
    unfold m_I_HeapInsert_b1 at hh1; refine PC.seq ?_; refine PC.region ?_; refine PL.op rfl (Rd.lss rfl rfl) ?_; refine PL.nil ?_; refine thA_n ?_; refine PC.seq ?_; rcases cond_some hh1 with ⟨h_28, hh1⟩ | ⟨h_28, hh1⟩; rotate_left
    · refine PC.cond_false rfl h_28 ?_; refine PC.exit ?_; (iterate 2 refine thA_e ?_); refine inA_eq rfl ?_; refine thA_n ?_; obtain rfl := some_in hh1; obtain rfl : (.inl () : Unit ⊕ (I_Heap × I_Rid × Bool)) = o15 := kk1; exact ⟨(), hh0, [some 0, some 1, some 2, some 3, some 4], ⟨rfl, rfl, ⟨⟨_, rfl, rfl, rfl, .mx ⟨.t _, trivial⟩⟩, ⟨_, rfl, rfl, rfl, .mx ⟨.t _, .t _, trivial⟩⟩, ⟨_, rfl, rfl, rfl, .mx ⟨.os rfl, trivial⟩⟩, ⟨_, rfl, rfl, rfl, .mx (sb_dL rfl 0 _)⟩, ⟨_, rfl, rfl, rfl, .fm _⟩, trivial⟩, ⟨.t _, .op rfl, .op rfl, .op rfl, trivial⟩⟩⟩
    refine PC.cond_true rfl h_28 ?_; refine PC.skip ?_; refine thA_n ?_; refine PC.seq ?_; refine PC.block ?_; refine PC.seq ?_; obtain ⟨x29, h_30, hh1⟩ := bind_some hh1; refine PC.region ?_; refine PL.op rfl (Rd.moveT rfl) ?_; refine PL.op rfl (Rd.ixOM rfl rfl rfl (ixI_lt h_30)) ?_; refine PL.op rfl (Rd.dpRM rfl rfl rfl h_30 rfl) ?_; refine PL.ef rfl (Ef.alloc rfl rfl) ?_; refine PL.nm (.op 5 0) [some ⟨.mx [.t (.v (.slice none 0 0))], 30, 0⟩, some ⟨.mx [iA (0 : Int), iA (0 : Int)], 34, 0⟩, some ⟨.mx [.os 3 0 r4.pages.length], 30, 0⟩, some ⟨.mx (dL 4 0 r4.pages), 50, 1⟩, some ⟨.fm (fam r4.pages), 70, 2⟩, some ⟨.mx [.t (.v (.slice none 0 0))], 50, 0⟩] rfl rfl ?_; refine PL.op rfl (Rd.asnT rfl) ?_; refine PL.store rfl rfl rfl rfl rfl rfl rfl ?_; refine PL.nO [some ⟨.mx [.t (.v (.slice none 0 0))], 30, 0⟩, some ⟨.mx [iA (0 : Int), iA (0 : Int)], 34, 0⟩, some ⟨.mx [.os 3 0 r4.pages.length], 30, 0⟩, some ⟨.mx (dL 4 0 r4.pages), 50, 1⟩, some ⟨.fm (fam r4.pages), 70, 2⟩, some ⟨.mx [.oi 4 i6.toNat x29.slots.length], 50, 0⟩] rfl ?_; refine PL.nil ?_; refine thA_n ?_; refine PC.seq ?_; obtain ⟨r31, h_32, hh1⟩ := bind_some hh1; refine PC.region ?_; refine PL.op rfl (Rd.loadBox rfl rfl rfl) ?_; refine PL.op rfl (Rd.moveT rfl) ?_; refine PL.callM true [] (w_I_PutSlot N x29 p_data r31 h_32) rfl Try.call33 rfl ⟨.aggL ⟨(Sb.fziM rfl (by first | decide | exact List.not_mem_nil) h_30 rfl rfl), trivial⟩, .t _, trivial⟩ rfl trivial (fun _ => ⟨⟨⟨trivial, trivial⟩, trivial, trivial, trivial⟩, (flat_cons flat_ow flat_nil)⟩) ?_; refine PL.nm (.tup [.agg [.os 6 0 r31.1.slots.length], iA r31.2.1, bA r31.2.2]) [some ⟨.mx [.t (.v (.slice none 0 0))], 30, 0⟩, some ⟨.mx [iA (0 : Int), iA (0 : Int)], 34, 0⟩, some ⟨.mx [.os 3 0 r4.pages.length], 30, 0⟩, some ⟨.mx (dL 4 0 r4.pages), 50, 1⟩, some ⟨.fm (fam r4.pages), 70, 2⟩, some ⟨.mx [.oi 4 i6.toNat x29.slots.length], 50, 0⟩, some ⟨.tr (eL r31.1.slots), 70, 2⟩] rfl rfl ?_; refine PL.op rfl (Rd.moveU rfl) ?_; (iterate 3 refine PL.op rfl (Rd.extract rfl rfl) ?_); refine PL.ef rfl (Ef.alloc rfl rfl) ?_; refine PL.nm (.op 7 0) [some ⟨.mx [.t (.v (.slice none 0 0))], 30, 0⟩, some ⟨.mx [iA (0 : Int), iA (0 : Int)], 34, 0⟩, some ⟨.mx [.os 3 0 r4.pages.length], 30, 0⟩, some ⟨.mx (dL 4 0 r4.pages), 50, 1⟩, some ⟨.fm (fam r4.pages), 70, 2⟩, some ⟨.mx [.oi 4 i6.toNat x29.slots.length], 50, 0⟩, some ⟨.tr (eL r31.1.slots), 70, 2⟩, some ⟨.mx [.t (.v (.slice none 0 0))], 50, 0⟩] rfl rfl ?_; refine PL.store rfl rfl rfl rfl rfl rfl rfl ?_; refine PL.nO [some ⟨.mx [.t (.v (.slice none 0 0))], 30, 0⟩, some ⟨.mx [iA (0 : Int), iA (0 : Int)], 34, 0⟩, some ⟨.mx [.os 3 0 r4.pages.length], 30, 0⟩, some ⟨.mx (dL 4 0 r4.pages), 50, 1⟩, some ⟨.fm (fam r4.pages), 70, 2⟩, some ⟨.mx [.oi 4 i6.toNat x29.slots.length], 50, 0⟩, some ⟨.tr (eL r31.1.slots), 70, 2⟩, some ⟨.mx [.os 6 0 r31.1.slots.length], 50, 0⟩] rfl ?_; (iterate 2 refine PL.op rfl (Rd.asnT rfl) ?_); refine PL.nil ?_; refine thA_n ?_; refine PC.seq ?_; refine PC.region ?_; refine PL.op rfl (Rd.moveT rfl) ?_; refine PL.nil ?_; refine thA_n ?_; rcases cond_some hh1 with ⟨h_33, hh1⟩ | ⟨h_33, hh1⟩; rotate_left
    · refine PC.cond_false rfl h_33 ?_; refine PC.skip ?_; refine inA_n ?_; refine thA_n ?_; obtain ⟨n34, h_35, hh1⟩ := bind_some hh1; refine PC.region ?_; refine PL.op rfl (Rd.addM rfl rfl h_35) ?_; refine PL.op rfl (Rd.moveT rfl) ?_; refine PL.nil ?_; obtain rfl := some_in hh1; refine thA_n ?_; exact ⟨(f17, n34), Nat.lt_succ_self _, kk1, [some 0, some 1, some 2, some 3, some 4], ⟨rfl, rfl, ⟨⟨_, rfl, rfl, rfl, .mx ⟨.t _, trivial⟩⟩, ⟨_, rfl, rfl, rfl, .mx ⟨.t _, .t _, trivial⟩⟩, ⟨_, rfl, rfl, rfl, .mx ⟨.os rfl, trivial⟩⟩, ⟨_, rfl, rfl, rfl, .mx (sb_dL rfl 0 _)⟩, ⟨_, rfl, rfl, rfl, .fm _⟩, trivial⟩, ⟨.t _, .op rfl, .op rfl, .op rfl, .os rfl, .t _, .t _, trivial⟩⟩⟩
    refine PC.cond_true rfl h_33 ?_; refine PC.seq ?_; refine PC.region ?_; refine PL.op rfl (Rd.fieldO rfl rfl) ?_; refine PL.op rfl (Rd.loadO rfl rfl rfl) ?_; refine PL.op rfl (Rd.moveT rfl) ?_; refine PL.op rfl (Rd.loadBox rfl rfl rfl) ?_; refine PL.op rfl (Rd.ixOM rfl rfl rfl (ixI_lt h_30)) ?_; refine PL.adSM hs r31.1 rfl rfl rfl rfl rfl rfl rfl rfl h_30 rfl rfl rfl rfl rfl rfl rfl ?_; refine PL.nO [some ⟨.mx [.t (.v (.slice none 0 0))], 30, 0⟩, some ⟨.mx [iA (0 : Int), iA (0 : Int)], 34, 0⟩, some ⟨.mx [.os 3 0 r4.pages.length], 30, 0⟩, some ⟨.mx (dL 8 0 (r4.pages.set i6.toNat r31.1)), 50, 1⟩, none, some ⟨.mx [.oi 4 i6.toNat x29.slots.length], 50, 0⟩, none, some ⟨.mx [.os 6 0 r31.1.slots.length], 50, 0⟩, some ⟨.fm (fam (r4.pages.set i6.toNat r31.1)), 70, 2⟩] rfl ?_; refine PL.nil ?_; refine thA_n ?_; refine PC.seq ?_; refine PC.region ?_; refine PL.op rfl (Rd.loadBox rfl rfl rfl) ?_; (iterate 2 refine PL.op rfl (Rd.moveT rfl) ?_); refine PL.op rfl (Rd.build rfl rfl rfl rfl) ?_; refine PL.store rfl rfl rfl rfl rfl rfl rfl ?_; refine PL.nO [some ⟨.mx [.os 3 0 r4.pages.length], 30, 0⟩, some ⟨.mx [iA (0 : Int), iA (0 : Int)], 34, 0⟩, some ⟨.mx [.os 3 0 r4.pages.length], 30, 0⟩, some ⟨.mx (dL 8 0 (r4.pages.set i6.toNat r31.1)), 50, 1⟩, none, some ⟨.mx [.oi 4 i6.toNat x29.slots.length], 50, 0⟩, none, some ⟨.mx [.os 6 0 r31.1.slots.length], 50, 0⟩, some ⟨.fm (fam (r4.pages.set i6.toNat r31.1)), 70, 2⟩] rfl ?_; refine PL.store rfl rfl rfl rfl rfl rfl rfl ?_; refine PL.nO [some ⟨.mx [.os 3 0 r4.pages.length], 30, 0⟩, some ⟨.mx [iA i6, iA r31.2.1], 34, 0⟩, some ⟨.mx [.os 3 0 r4.pages.length], 30, 0⟩, some ⟨.mx (dL 8 0 (r4.pages.set i6.toNat r31.1)), 50, 1⟩, none, some ⟨.mx [.oi 4 i6.toNat x29.slots.length], 50, 0⟩, none, some ⟨.mx [.os 6 0 r31.1.slots.length], 50, 0⟩, some ⟨.fm (fam (r4.pages.set i6.toNat r31.1)), 70, 2⟩] rfl ?_; refine PL.op rfl (Rd.asnT rfl) ?_; refine PL.nil ?_; refine thA_n ?_; refine PC.ret ?_; refine inA_r ?_; (iterate 2 refine thA_r ?_); refine inA_r ?_; refine thA_r ?_; obtain rfl := some_in hh1; obtain rfl : (.inr ((I_Heap.mk (r4.pages.set i6.toNat r31.1)), (I_Rid.mk i6 r31.2.1), true) : Unit ⊕ (I_Heap × I_Rid × Bool)) = o15 := kk1; refine thA_r ?_; obtain rfl := some_in hh0; exact FinA.mk (r := .tup [.agg [.os 0 0 ((((I_Heap.mk (r4.pages.set i6.toNat r31.1)), (I_Rid.mk i6 r31.2.1), true).1.pages).length)], .agg [iA (((I_Heap.mk (r4.pages.set i6.toNat r31.1)), (I_Rid.mk i6 r31.2.1), true).2.1.page), iA (((I_Heap.mk (r4.pages.set i6.toNat r31.1)), (I_Rid.mk i6 r31.2.1), true).2.1.slot)], bA (((I_Heap.mk (r4.pages.set i6.toNat r31.1)), (I_Rid.mk i6 r31.2.1), true).2.2)]) (bl := [⟨.mx (dL 1 0 (((I_Heap.mk (r4.pages.set i6.toNat r31.1)), (I_Rid.mk i6 r31.2.1), true).1.pages)), 50, 1⟩, ⟨.fm (fam (((I_Heap.mk (r4.pages.set i6.toNat r31.1)), (I_Rid.mk i6 r31.2.1), true).1.pages)), 70, 2⟩]) [some 3, some 8] (.inl rfl) rfl (rl := [.cell 4 30, .cell 5 34, .tmp 6]) (.cellN rfl rfl rfl rfl (.cellN rfl rfl rfl rfl (.tmp .nil))) rfl rfl rfl (.tupL ⟨.aggL ⟨.osE rfl (by simp only [List.length_set]), trivial⟩, .aggL ⟨.t _, .t _, trivial⟩, .t _, trivial⟩) ⟨⟨_, rfl, rfl, rfl, .mx (sb_dL rfl 0 _)⟩, ⟨_, rfl, rfl, rfl, .fm _⟩, trivial⟩ ⟨rfl, rfl⟩
  clear hh0
  rintro ⟨⟩ hh0
  replace hh0 : m_I_HeapInsert_k1 N p_data r4  = some r := hh0
  unfold m_I_HeapInsert_k1 at hh0; refine thA_n ?_; refine PC.seq ?_; obtain ⟨r20, h_21, hh0⟩ := bind_some hh0; refine PC.region ?_; refine PL.op rfl (Rd.build rfl rfl rfl rfl) ?_; refine PL.op rfl (Rd.moveT rfl) ?_; refine PL.callM false [] (w_I_PutSlot N (I_Page.mk ([] : List I_Slot)) p_data r20 h_21) rfl Try.call33 rfl ⟨.aggL ⟨Sb.nilE, trivial⟩, .t _, trivial⟩ rfl trivial (fun h => by cases h) ?_; refine PL.nm (.tup [.agg [.os 5 0 r20.1.slots.length], iA r20.2.1, bA r20.2.2]) [some ⟨.mx [.t (.v (.slice none 0 0))], 30, 0⟩, some ⟨.mx [iA (0 : Int), iA (0 : Int)], 34, 0⟩, some ⟨.mx [.os 3 0 r4.pages.length], 30, 0⟩, some ⟨.mx (dL 4 0 r4.pages), 50, 1⟩, some ⟨.fm (fam r4.pages), 70, 2⟩, some ⟨.tr (eL r20.1.slots), 70, 2⟩] rfl rfl ?_; refine PL.op rfl (Rd.moveU rfl) ?_; (iterate 3 refine PL.op rfl (Rd.extract rfl rfl) ?_); refine PL.ef rfl (Ef.alloc rfl rfl) ?_; refine PL.nm (.op 6 0) [some ⟨.mx [.t (.v (.slice none 0 0))], 30, 0⟩, some ⟨.mx [iA (0 : Int), iA (0 : Int)], 34, 0⟩, some ⟨.mx [.os 3 0 r4.pages.length], 30, 0⟩, some ⟨.mx (dL 4 0 r4.pages), 50, 1⟩, some ⟨.fm (fam r4.pages), 70, 2⟩, some ⟨.tr (eL r20.1.slots), 70, 2⟩, some ⟨.mx [.t (.v (.slice none 0 0))], 50, 0⟩] rfl rfl ?_; refine PL.store rfl rfl rfl rfl rfl rfl rfl ?_; refine PL.nO [some ⟨.mx [.t (.v (.slice none 0 0))], 30, 0⟩, some ⟨.mx [iA (0 : Int), iA (0 : Int)], 34, 0⟩, some ⟨.mx [.os 3 0 r4.pages.length], 30, 0⟩, some ⟨.mx (dL 4 0 r4.pages), 50, 1⟩, some ⟨.fm (fam r4.pages), 70, 2⟩, some ⟨.tr (eL r20.1.slots), 70, 2⟩, some ⟨.mx [.os 5 0 r20.1.slots.length], 50, 0⟩] rfl ?_; (iterate 2 refine PL.op rfl (Rd.asnT rfl) ?_); refine PL.nil ?_; refine thA_n ?_; (iterate 2 refine PC.seq ?_); rcases cond_some hh0 with ⟨h_22, hh0⟩ | ⟨h_22, hh0⟩; rotate_left
  · refine PC.region ?_; refine PL.op rfl (Rd.moveT rfl) ?_; refine PL.op rfl (Rd.unnot rfl) ?_; refine PL.op rfl (Rd.moveT rfl) ?_; (iterate 4 refine PL.guard_off rfl rfl (not_f h_22) ?_); refine PL.op rfl (Rd.pick_t rfl (not_f h_22)) ?_; refine PL.nil ?_; refine thA_n ?_; refine PC.cond_true rfl rfl ?_; refine PC.seq ?_; refine PC.region ?_; (iterate 2 refine PL.op rfl (Rd.build rfl rfl rfl rfl) ?_); (iterate 2 refine PL.store rfl rfl rfl rfl rfl rfl rfl ?_); refine PL.op rfl (Rd.asnT rfl) ?_; refine PL.nil ?_; refine thA_n ?_; refine PC.ret ?_; refine thA_r ?_; obtain rfl := some_in hh0; exact FinA.mk (r := .tup [.agg [.os 0 0 ((((I_Heap.mk ([] : List I_Page)), (I_Rid.mk (0 : Int) (0 : Int)), false).1.pages).length)], .agg [iA (((I_Heap.mk ([] : List I_Page)), (I_Rid.mk (0 : Int) (0 : Int)), false).2.1.page), iA (((I_Heap.mk ([] : List I_Page)), (I_Rid.mk (0 : Int) (0 : Int)), false).2.1.slot)], bA (((I_Heap.mk ([] : List I_Page)), (I_Rid.mk (0 : Int) (0 : Int)), false).2.2)]) (bl := [⟨.mx (dL 1 0 (((I_Heap.mk ([] : List I_Page)), (I_Rid.mk (0 : Int) (0 : Int)), false).1.pages)), 50, 1⟩, ⟨.fm (fam (((I_Heap.mk ([] : List I_Page)), (I_Rid.mk (0 : Int) (0 : Int)), false).1.pages)), 70, 2⟩]) [none, none] (.inl rfl) rfl (rl := [.cell 4 30, .cell 5 34, .tmp 6]) (.cellN rfl rfl rfl rfl (.cellN rfl rfl rfl rfl (.tmp .nil))) rfl rfl rfl (.tupL ⟨.aggL ⟨.osn rfl, trivial⟩, .aggL ⟨.t _, .t _, trivial⟩, .t _, trivial⟩) ⟨rfl, rfl, trivial⟩ ⟨rfl, rfl⟩
  refine PC.region ?_; refine PL.op rfl (Rd.moveT rfl) ?_; refine PL.op rfl (Rd.unnot rfl) ?_; refine PL.op rfl (Rd.moveT rfl) ?_; refine PL.guard_on rfl (not_t h_22) ?_; refine PL.op rfl (Rd.fieldO rfl rfl) ?_; refine PL.guard_on rfl (not_t h_22) ?_; refine PL.op rfl (Rd.loadO rfl rfl rfl) ?_; refine PL.guard_on rfl (not_t h_22) ?_; refine PL.op rfl (Rd.lenO rfl rfl) ?_; refine PL.guard_on rfl (not_t h_22) ?_; refine PL.op rfl (Rd.eql rfl rfl) ?_; refine PL.op rfl (Rd.pick_f rfl (not_t h_22)) ?_; refine PL.nil ?_; refine thA_n ?_; rcases cond_some hh0 with ⟨h_23, hh0⟩ | ⟨h_23, hh0⟩
  · refine PC.cond_true rfl h_23 ?_; refine PC.seq ?_; refine PC.region ?_; (iterate 2 refine PL.op rfl (Rd.build rfl rfl rfl rfl) ?_); (iterate 2 refine PL.store rfl rfl rfl rfl rfl rfl rfl ?_); refine PL.op rfl (Rd.asnT rfl) ?_; refine PL.nil ?_; refine thA_n ?_; refine PC.ret ?_; refine thA_r ?_; obtain rfl := some_in hh0; exact FinA.mk (r := .tup [.agg [.os 0 0 ((((I_Heap.mk ([] : List I_Page)), (I_Rid.mk (0 : Int) (0 : Int)), false).1.pages).length)], .agg [iA (((I_Heap.mk ([] : List I_Page)), (I_Rid.mk (0 : Int) (0 : Int)), false).2.1.page), iA (((I_Heap.mk ([] : List I_Page)), (I_Rid.mk (0 : Int) (0 : Int)), false).2.1.slot)], bA (((I_Heap.mk ([] : List I_Page)), (I_Rid.mk (0 : Int) (0 : Int)), false).2.2)]) (bl := [⟨.mx (dL 1 0 (((I_Heap.mk ([] : List I_Page)), (I_Rid.mk (0 : Int) (0 : Int)), false).1.pages)), 50, 1⟩, ⟨.fm (fam (((I_Heap.mk ([] : List I_Page)), (I_Rid.mk (0 : Int) (0 : Int)), false).1.pages)), 70, 2⟩]) [none, none] (.inl rfl) rfl (rl := [.cell 4 30, .cell 5 34, .tmp 6]) (.cellN rfl rfl rfl rfl (.cellN rfl rfl rfl rfl (.tmp .nil))) rfl rfl rfl (.tupL ⟨.aggL ⟨.osn rfl, trivial⟩, .aggL ⟨.t _, .t _, trivial⟩, .t _, trivial⟩) ⟨rfl, rfl, trivial⟩ ⟨rfl, rfl⟩
  refine PC.cond_false rfl h_23 ?_; refine PC.skip ?_; refine thA_n ?_; refine PC.seq ?_; obtain ⟨xs24, h_25, hh0⟩ := bind_some hh0; refine PC.region ?_; refine PL.op rfl (Rd.fieldO rfl rfl) ?_; refine PL.op rfl (Rd.loadO rfl rfl rfl) ?_; refine PL.op rfl (Rd.loadBox rfl rfl rfl) ?_; refine PL.ef rfl (Ef.lit (cs := [.os 5 0 r20.1.slots.length]) [_] rfl rfl (by decide) rfl rfl rfl rfl) ?_; refine PL.nm (.os 7 0 1) [some ⟨.mx [.t (.v (.slice none 0 0))], 30, 0⟩, some ⟨.mx [iA (0 : Int), iA (0 : Int)], 34, 0⟩, some ⟨.mx [.os 3 0 r4.pages.length], 30, 0⟩, some ⟨.mx (dL 4 0 r4.pages), 50, 1⟩, some ⟨.fm (fam r4.pages), 70, 2⟩, some ⟨.tr (eL r20.1.slots), 70, 2⟩, some ⟨.mx [.os 5 0 r20.1.slots.length], 50, 0⟩, some ⟨.mx [.os 5 0 r20.1.slots.length], 50, 1⟩] rfl rfl ?_; refine PL.apD hs r20.1 rfl rfl rfl rfl rfl rfl rfl rfl rfl rfl rfl rfl rfl rfl rfl rfl rfl rfl h_25 ?_; refine PL.nm (.os 8 0 xs24.length) [some ⟨.mx [.t (.v (.slice none 0 0))], 30, 0⟩, some ⟨.mx [iA (0 : Int), iA (0 : Int)], 34, 0⟩, some ⟨.mx [.os 3 0 r4.pages.length], 30, 0⟩, none, none, none, some ⟨.mx [.os 5 0 r20.1.slots.length], 50, 0⟩, some ⟨.mx [.os 5 0 r20.1.slots.length], 50, 1⟩, some ⟨.mx (dL 9 0 xs24), 50, 1⟩, some ⟨.fm (fam xs24), 70, 2⟩] rfl rfl ?_; refine PL.op rfl (Rd.fieldO rfl rfl) ?_; refine PL.store rfl rfl rfl rfl rfl rfl rfl ?_; refine PL.nO [some ⟨.mx [.t (.v (.slice none 0 0))], 30, 0⟩, some ⟨.mx [iA (0 : Int), iA (0 : Int)], 34, 0⟩, some ⟨.mx [.os 8 0 xs24.length], 30, 0⟩, none, none, none, some ⟨.mx [.os 5 0 r20.1.slots.length], 50, 0⟩, some ⟨.mx [.os 5 0 r20.1.slots.length], 50, 1⟩, some ⟨.mx (dL 9 0 xs24), 50, 1⟩, some ⟨.fm (fam xs24), 70, 2⟩] rfl ?_; refine PL.nil ?_; refine thA_n ?_; refine PC.seq ?_; obtain ⟨n26, h_27, hh0⟩ := bind_some hh0; refine PC.any (id := 16) 10 (.seg [0, 1, 2, 3, 4, 5, 6, 7, 8, 9] .done) [0, 1] rfl (by kernel_rfl) rfl ?_; refine PT.seg ?_; refine PR.op rfl (Rd.loadBox rfl rfl rfl) ?_; refine PR.op rfl (Rd.fieldO rfl rfl) ?_; refine PR.op rfl (Rd.loadO rfl rfl rfl) ?_; refine PR.op rfl (Rd.lenO rfl rfl) ?_; refine PR.op rfl (Rd.subM rfl rfl h_27) ?_; refine PR.op rfl (Rd.moveT rfl) ?_; refine PR.op rfl (Rd.build rfl rfl rfl rfl) ?_; refine PR.store rfl rfl rfl rfl rfl rfl rfl rfl ?_; refine PR.nO [some ⟨.mx [.os 8 0 xs24.length], 30, 0⟩, some ⟨.mx [iA (0 : Int), iA (0 : Int)], 34, 0⟩, some ⟨.mx [.os 8 0 xs24.length], 30, 0⟩, none, none, none, some ⟨.mx [.os 5 0 r20.1.slots.length], 50, 0⟩, some ⟨.mx [.os 5 0 r20.1.slots.length], 50, 1⟩, some ⟨.mx (dL 9 0 xs24), 50, 1⟩, some ⟨.fm (fam xs24), 70, 2⟩] rfl ?_; refine PR.store rfl rfl rfl rfl rfl rfl rfl rfl ?_; refine PR.nO [some ⟨.mx [.os 8 0 xs24.length], 30, 0⟩, some ⟨.mx [iA n26, iA r20.2.1], 34, 0⟩, some ⟨.mx [.os 8 0 xs24.length], 30, 0⟩, none, none, none, some ⟨.mx [.os 5 0 r20.1.slots.length], 50, 0⟩, some ⟨.mx [.os 5 0 r20.1.slots.length], 50, 1⟩, some ⟨.mx (dL 9 0 xs24), 50, 1⟩, some ⟨.fm (fam xs24), 70, 2⟩] rfl ?_; refine PR.op rfl (Rd.asnT rfl) ?_; refine PR.nil ?_; refine PT.done ?_; refine PL.nil ?_; refine thA_n ?_; refine PC.ret ?_; obtain rfl := some_in hh0; exact FinA.mk (r := .tup [.agg [.os 0 0 ((((I_Heap.mk xs24), (I_Rid.mk n26 r20.2.1), true).1.pages).length)], .agg [iA (((I_Heap.mk xs24), (I_Rid.mk n26 r20.2.1), true).2.1.page), iA (((I_Heap.mk xs24), (I_Rid.mk n26 r20.2.1), true).2.1.slot)], bA (((I_Heap.mk xs24), (I_Rid.mk n26 r20.2.1), true).2.2)]) (bl := [⟨.mx (dL 1 0 (((I_Heap.mk xs24), (I_Rid.mk n26 r20.2.1), true).1.pages)), 50, 1⟩, ⟨.fm (fam (((I_Heap.mk xs24), (I_Rid.mk n26 r20.2.1), true).1.pages)), 70, 2⟩]) [some 8, some 9] (.inl rfl) rfl (rl := [.cell 4 30, .cell 5 34, .tmp 6]) (.cellN rfl rfl rfl rfl (.cellN rfl rfl rfl rfl (.tmp .nil))) rfl rfl rfl (.tupL ⟨.aggL ⟨.os rfl, trivial⟩, .aggL ⟨.t _, .t _, trivial⟩, .t _, trivial⟩) ⟨⟨_, rfl, rfl, rfl, .mx (sb_dL rfl 0 _)⟩, ⟨_, rfl, rfl, rfl, .fm _⟩, trivial⟩ ⟨rfl, rfl⟩
def m_I_Heap_has (N : Nat) (p_h : I_Heap) (p_page : Int) : Option (Bool) :=
  cond (decide ((0 : Int) ≤ p_page))
    (some (decide (p_page < (p_h.pages.length : Int))))
    (some false)
theorem w_I_Heap_has (N : Nat) (p_h : I_Heap) (p_page : Int) (r : Bool) (hh0 : m_I_Heap_has N p_h p_page = some r) : FnX Try.prog 26 [] [.agg [sL p_h.pages], iA p_page] (RE (bA r) []) := by
  unfold m_I_Heap_has at hh0; refine FnX.mk Try.func26 rfl rfl ?_; intro s hs; refine PC.seq ?_; refine PC.region ?_; refine PL.ef rfl (Ef.box rfl rfl rfl) ?_; refine PL.nm (.op 0 0) [some ⟨.mx [sL p_h.pages], 30, 0⟩] rfl rfl ?_; refine PL.op rfl (Rd.asnT rfl) ?_; refine PL.nil ?_; refine thA_n ?_; refine PC.seq ?_; rcases cond_some hh0 with ⟨h_1, hh0⟩ | ⟨h_1, hh0⟩; rotate_left
  · refine PC.region ?_; refine PL.op rfl (Rd.moveT rfl) ?_; refine PL.op rfl (Rd.geq rfl rfl) ?_; refine PL.op rfl (Rd.moveT rfl) ?_; (iterate 5 refine PL.guard_off rfl rfl h_1 ?_); refine PL.op rfl (Rd.pick_f rfl h_1) ?_; refine PL.op rfl (Rd.asnT rfl) ?_; refine PL.nil ?_; refine thA_n ?_; refine PC.ret ?_; obtain rfl := some_in hh0; exact FinA.mk (r := bA false) (bl := []) [] (.inl rfl) rfl (rl := [.tmp 4]) (.tmp .nil) rfl rfl rfl (.t _) trivial ⟨rfl, rfl⟩
  refine PC.region ?_; refine PL.op rfl (Rd.moveT rfl) ?_; refine PL.op rfl (Rd.geq rfl rfl) ?_; refine PL.op rfl (Rd.moveT rfl) ?_; refine PL.guard_on rfl h_1 ?_; refine PL.op rfl (Rd.moveT rfl) ?_; refine PL.guard_on rfl h_1 ?_; refine PL.op rfl (Rd.fieldO rfl rfl) ?_; refine PL.guard_on rfl h_1 ?_; refine PL.op rfl (Rd.loadO rfl rfl rfl) ?_; refine PL.guard_on rfl h_1 ?_; refine PL.op rfl (Rd.lenT rfl) ?_; refine PL.guard_on rfl h_1 ?_; refine PL.op rfl (Rd.lss rfl rfl) ?_; refine PL.op rfl (Rd.pick_t rfl h_1) ?_; refine PL.op rfl (Rd.asnT rfl) ?_; refine PL.nil ?_; refine thA_n ?_; refine PC.ret ?_; obtain rfl := some_in hh0; exact FinA.mk (r := bA (decide (p_page < (p_h.pages.length : Int)))) (bl := []) [] (.inl rfl) rfl (rl := [.tmp 4]) (.tmp .nil) rfl rfl rfl (.t _) trivial ⟨rfl, rfl⟩
def m_I_HeapDelete (N : Nat) (p_h : I_Heap) (p_r : I_Rid) : Option (I_Heap × Bool) :=
  (m_I_ValidHeap N p_h).bind fun r1 =>
  cond r1
    ((m_I_Heap_has N p_h p_r.page).bind fun r4 =>
    cond r4
      ((ixI p_h.pages p_r.page).bind fun x7 =>
      (m_I_ClearSlot N x7 p_r.slot).bind fun r9 =>
      cond r9.2
        ((m_I_Heap_clone N p_h).bind fun r12 =>
        (ixI r12.pages p_r.page).bind fun x14 =>
        some ((I_Heap.mk (r12.pages.set p_r.page.toNat r9.1)), true))
        (some ((I_Heap.mk ([] : List I_Page)), false)))
      (some ((I_Heap.mk ([] : List I_Page)), false)))
    (some ((I_Heap.mk ([] : List I_Page)), false))
theorem w_I_HeapDelete (N : Nat) (p_h : I_Heap) (p_r : I_Rid) (r : I_Heap × Bool) (hh0 : m_I_HeapDelete N p_h p_r = some r) : FnX Try.prog 10 [] [.agg [sL p_h.pages], .agg [iA p_r.page, iA p_r.slot]] (RE (.tup [.agg [.os 0 0 r.1.pages.length], bA r.2]) [⟨.mx (dL 1 0 r.1.pages), 50, 1⟩, ⟨.fm (fam r.1.pages), 70, 2⟩]) := by
  unfold m_I_HeapDelete at hh0; refine FnX.mk Try.func10 rfl rfl ?_; intro s hs; refine PC.seq ?_; refine PC.region ?_; refine PL.ef rfl (Ef.box rfl rfl rfl) ?_; refine PL.nm (.op 0 0) [some ⟨.mx [sL p_h.pages], 30, 0⟩] rfl rfl ?_; refine PL.ef rfl (Ef.box rfl rfl rfl) ?_; refine PL.nm (.op 1 0) [some ⟨.mx [sL p_h.pages], 30, 0⟩, some ⟨.mx [iA p_r.page, iA p_r.slot], 34, 0⟩] rfl rfl ?_; refine PL.ef rfl (Ef.alloc rfl rfl) ?_; refine PL.nm (.op 2 0) [some ⟨.mx [sL p_h.pages], 30, 0⟩, some ⟨.mx [iA p_r.page, iA p_r.slot], 34, 0⟩, some ⟨.mx [.t (.v (.slice none 0 0))], 30, 0⟩] rfl rfl ?_; refine PL.op rfl (Rd.asnT rfl) ?_; refine PL.nil ?_; refine thA_n ?_; (iterate 2 refine PC.seq ?_); obtain ⟨r1, h_2, hh0⟩ := bind_some hh0; rcases cond_some hh0 with ⟨h_3, hh0⟩ | ⟨h_3, hh0⟩; rotate_left
  · refine PC.region ?_; refine PL.op rfl (Rd.loadBox rfl rfl rfl) ?_; refine PL.callM false [] (w_I_ValidHeap N p_h r1 h_2) rfl Try.call25 rfl ⟨.aggL ⟨.t _, trivial⟩, trivial⟩ rfl trivial (fun h => by cases h) ?_; refine PL.op rfl (Rd.unnot rfl) ?_; refine PL.op rfl (Rd.moveT rfl) ?_; (iterate 5 refine PL.guard_off rfl rfl (not_f h_3) ?_); refine PL.op rfl (Rd.pick_t rfl (not_f h_3)) ?_; refine PL.nil ?_; refine thA_n ?_; refine PC.cond_true rfl rfl ?_; refine PC.seq ?_; refine PC.region ?_; refine PL.op rfl (Rd.build rfl rfl rfl rfl) ?_; refine PL.store rfl rfl rfl rfl rfl rfl rfl ?_; refine PL.op rfl (Rd.asnT rfl) ?_; refine PL.nil ?_; refine thA_n ?_; refine PC.ret ?_; refine thA_r ?_; obtain rfl := some_in hh0; exact FinA.mk (r := .tup [.agg [.os 0 0 ((((I_Heap.mk ([] : List I_Page)), false).1.pages).length)], bA (((I_Heap.mk ([] : List I_Page)), false).2)]) (bl := [⟨.mx (dL 1 0 (((I_Heap.mk ([] : List I_Page)), false).1.pages)), 50, 1⟩, ⟨.fm (fam (((I_Heap.mk ([] : List I_Page)), false).1.pages)), 70, 2⟩]) [none, none] (.inl rfl) rfl (rl := [.cell 4 30, .tmp 5]) (.cellN rfl rfl rfl rfl (.tmp .nil)) rfl rfl rfl (.tupL ⟨.aggL ⟨.osn rfl, trivial⟩, .t _, trivial⟩) ⟨rfl, rfl, trivial⟩ ⟨rfl, rfl⟩
  obtain ⟨r4, h_5, hh0⟩ := bind_some hh0; refine PC.region ?_; refine PL.op rfl (Rd.loadBox rfl rfl rfl) ?_; refine PL.callM false [] (w_I_ValidHeap N p_h r1 h_2) rfl Try.call25 rfl ⟨.aggL ⟨.t _, trivial⟩, trivial⟩ rfl trivial (fun h => by cases h) ?_; refine PL.op rfl (Rd.unnot rfl) ?_; refine PL.op rfl (Rd.moveT rfl) ?_; refine PL.guard_on rfl (not_t h_3) ?_; refine PL.op rfl (Rd.loadBox rfl rfl rfl) ?_; refine PL.guard_on rfl (not_t h_3) ?_; refine PL.op rfl (Rd.fieldO rfl rfl) ?_; refine PL.guard_on rfl (not_t h_3) ?_; refine PL.op rfl (Rd.loadO rfl rfl rfl) ?_; refine PL.guard_on rfl (not_t h_3) ?_; refine PL.callM false [] (w_I_Heap_has N p_h p_r.page r4 h_5) rfl Try.call26 rfl ⟨.aggL ⟨.t _, trivial⟩, .t _, trivial⟩ rfl trivial (fun h => by cases h) ?_; refine PL.guard_on rfl (not_t h_3) ?_; refine PL.op rfl (Rd.unnot rfl) ?_; refine PL.op rfl (Rd.pick_f rfl (not_t h_3)) ?_; refine PL.nil ?_; refine thA_n ?_; rcases cond_some hh0 with ⟨h_6, hh0⟩ | ⟨h_6, hh0⟩; rotate_left
  · refine PC.cond_true rfl (not_f h_6) ?_; refine PC.seq ?_; refine PC.region ?_; refine PL.op rfl (Rd.build rfl rfl rfl rfl) ?_; refine PL.store rfl rfl rfl rfl rfl rfl rfl ?_; refine PL.op rfl (Rd.asnT rfl) ?_; refine PL.nil ?_; refine thA_n ?_; refine PC.ret ?_; refine thA_r ?_; obtain rfl := some_in hh0; exact FinA.mk (r := .tup [.agg [.os 0 0 ((((I_Heap.mk ([] : List I_Page)), false).1.pages).length)], bA (((I_Heap.mk ([] : List I_Page)), false).2)]) (bl := [⟨.mx (dL 1 0 (((I_Heap.mk ([] : List I_Page)), false).1.pages)), 50, 1⟩, ⟨.fm (fam (((I_Heap.mk ([] : List I_Page)), false).1.pages)), 70, 2⟩]) [none, none] (.inl rfl) rfl (rl := [.cell 4 30, .tmp 5]) (.cellN rfl rfl rfl rfl (.tmp .nil)) rfl rfl rfl (.tupL ⟨.aggL ⟨.osn rfl, trivial⟩, .t _, trivial⟩) ⟨rfl, rfl, trivial⟩ ⟨rfl, rfl⟩
  refine PC.cond_false rfl (not_t h_6) ?_; refine PC.skip ?_; refine thA_n ?_; obtain ⟨x7, h_8, hh0⟩ := bind_some hh0; obtain ⟨r9, h_10, hh0⟩ := bind_some hh0; refine PC.cut hs (fun _ : Unit => [(2, .op 0 0), (3, .op 1 0), (4, .op 2 0), (6, .op 3 0), (7, bA r9.2)]) (fun _ => [⟨.mx [sL p_h.pages], 30, 0⟩, ⟨.mx [iA p_r.page, iA p_r.slot], 34, 0⟩, ⟨.mx [.t (.v (.slice none 0 0))], 30, 0⟩, ⟨.mx [.os 4 0 r9.1.slots.length], 50, 0⟩, ⟨.tr (eL r9.1.slots), 70, 2⟩]) (fun _ => True) ?_ ?_
  · refine PC.any (id := 3) 15 (.seg [0, 1, 2, 3, 4, 5, 6, 7] (.fork (.seg [8, 9, 10, 11, 12, 13, 14] .done) (.seg [12, 8, 9, 10, 11, 13, 14] .done))) [] rfl (by kernel_rfl) rfl ?_; refine PT.seg ?_; refine PR.op rfl (Rd.fieldO rfl rfl) ?_; refine PR.op rfl (Rd.loadO rfl rfl rfl) ?_; refine PR.op rfl (Rd.fieldO rfl rfl) ?_; refine PR.op rfl (Rd.loadO rfl rfl rfl) ?_; refine PR.op rfl (Rd.ixM rfl rfl h_8) ?_; refine PR.op rfl (Rd.elMR rfl h_8 rfl rfl) ?_; refine PR.op rfl (Rd.fieldO rfl rfl) ?_; refine PR.op rfl (Rd.loadO rfl rfl rfl) ?_; refine PR.nil ?_; refine PT.fork ?_ ?_
    · refine PT.seg ?_; refine PR.callM false [] (w_I_ClearSlot N x7 p_r.slot r9 h_10) rfl Try.call27 rfl ⟨.aggL ⟨.t _, trivial⟩, .t _, trivial⟩ rfl trivial (fun h => by cases h) rfl ?_; refine PR.nm (.tup [.agg [.os 3 0 r9.1.slots.length], bA r9.2]) [some ⟨.mx [sL p_h.pages], 30, 0⟩, some ⟨.mx [iA p_r.page, iA p_r.slot], 34, 0⟩, some ⟨.mx [.t (.v (.slice none 0 0))], 30, 0⟩, some ⟨.tr (eL r9.1.slots), 70, 2⟩] rfl rfl ?_; refine PR.op rfl (Rd.moveU rfl) ?_; (iterate 2 refine PR.op rfl (Rd.extract rfl rfl) ?_); refine PR.efX rfl rfl (Ef.alloc rfl rfl) ?_; refine PR.nm (.op 4 0) [some ⟨.mx [sL p_h.pages], 30, 0⟩, some ⟨.mx [iA p_r.page, iA p_r.slot], 34, 0⟩, some ⟨.mx [.t (.v (.slice none 0 0))], 30, 0⟩, some ⟨.tr (eL r9.1.slots), 70, 2⟩, some ⟨.mx [.t (.v (.slice none 0 0))], 50, 0⟩] rfl rfl ?_; refine PR.store rfl rfl rfl rfl rfl rfl rfl rfl ?_; refine PR.nO [some ⟨.mx [sL p_h.pages], 30, 0⟩, some ⟨.mx [iA p_r.page, iA p_r.slot], 34, 0⟩, some ⟨.mx [.t (.v (.slice none 0 0))], 30, 0⟩, some ⟨.tr (eL r9.1.slots), 70, 2⟩, some ⟨.mx [.os 3 0 r9.1.slots.length], 50, 0⟩] rfl ?_; refine PR.op rfl (Rd.asnT rfl) ?_; refine PR.nil ?_; refine PT.done ?_; refine PL.nil ?_; refine thA_n ?_; exact ⟨(), trivial, [some 0, some 1, some 2, some 4, some 3], ⟨rfl, rfl, ⟨⟨_, rfl, rfl, rfl, .mx ⟨.t _, trivial⟩⟩, ⟨_, rfl, rfl, rfl, .mx ⟨.t _, .t _, trivial⟩⟩, ⟨_, rfl, rfl, rfl, .mx ⟨.t _, trivial⟩⟩, ⟨_, rfl, rfl, rfl, .mx ⟨.os rfl, trivial⟩⟩, ⟨_, rfl, rfl, rfl, .tr _⟩, trivial⟩, ⟨.op rfl, .op rfl, .op rfl, .op rfl, .t _, trivial⟩⟩⟩
    refine PT.seg ?_; refine PR.efX rfl rfl (Ef.alloc rfl rfl) ?_; refine PR.nm (.op 3 0) [some ⟨.mx [sL p_h.pages], 30, 0⟩, some ⟨.mx [iA p_r.page, iA p_r.slot], 34, 0⟩, some ⟨.mx [.t (.v (.slice none 0 0))], 30, 0⟩, some ⟨.mx [.t (.v (.slice none 0 0))], 50, 0⟩] rfl rfl ?_; refine PR.callM false [] (w_I_ClearSlot N x7 p_r.slot r9 h_10) rfl Try.call27 rfl ⟨.aggL ⟨.t _, trivial⟩, .t _, trivial⟩ rfl trivial (fun h => by cases h) rfl ?_; refine PR.nm (.tup [.agg [.os 4 0 r9.1.slots.length], bA r9.2]) [some ⟨.mx [sL p_h.pages], 30, 0⟩, some ⟨.mx [iA p_r.page, iA p_r.slot], 34, 0⟩, some ⟨.mx [.t (.v (.slice none 0 0))], 30, 0⟩, some ⟨.mx [.t (.v (.slice none 0 0))], 50, 0⟩, some ⟨.tr (eL r9.1.slots), 70, 2⟩] rfl rfl ?_; refine PR.op rfl (Rd.moveU rfl) ?_; (iterate 2 refine PR.op rfl (Rd.extract rfl rfl) ?_); refine PR.store rfl rfl rfl rfl rfl rfl rfl rfl ?_; refine PR.nO [some ⟨.mx [sL p_h.pages], 30, 0⟩, some ⟨.mx [iA p_r.page, iA p_r.slot], 34, 0⟩, some ⟨.mx [.t (.v (.slice none 0 0))], 30, 0⟩, some ⟨.mx [.os 4 0 r9.1.slots.length], 50, 0⟩, some ⟨.tr (eL r9.1.slots), 70, 2⟩] rfl ?_; refine PR.op rfl (Rd.asnT rfl) ?_; refine PR.nil ?_; refine PT.done ?_; refine PL.nil ?_; refine thA_n ?_; exact ⟨(), trivial, [some 0, some 1, some 2, some 3, some 4], ⟨rfl, rfl, ⟨⟨_, rfl, rfl, rfl, .mx ⟨.t _, trivial⟩⟩, ⟨_, rfl, rfl, rfl, .mx ⟨.t _, .t _, trivial⟩⟩, ⟨_, rfl, rfl, rfl, .mx ⟨.t _, trivial⟩⟩, ⟨_, rfl, rfl, rfl, .mx ⟨.os rfl, trivial⟩⟩, ⟨_, rfl, rfl, rfl, .tr _⟩, trivial⟩, ⟨.op rfl, .op rfl, .op rfl, .op rfl, .t _, trivial⟩⟩⟩
  rintro ⟨⟩ -
  (iterate 2 refine PC.seq ?_); refine PC.region ?_; refine PL.op rfl (Rd.moveT rfl) ?_; refine PL.op rfl (Rd.unnot rfl) ?_; refine PL.nil ?_; refine thA_n ?_; rcases cond_some hh0 with ⟨h_11, hh0⟩ | ⟨h_11, hh0⟩; rotate_left
  · refine PC.cond_true rfl (not_f h_11) ?_; refine PC.seq ?_; refine PC.region ?_; refine PL.op rfl (Rd.build rfl rfl rfl rfl) ?_; refine PL.store rfl rfl rfl rfl rfl rfl rfl ?_; refine PL.op rfl (Rd.asnT rfl) ?_; refine PL.nil ?_; refine thA_n ?_; refine PC.ret ?_; refine thA_r ?_; obtain rfl := some_in hh0; exact FinA.mk (r := .tup [.agg [.os 0 0 ((((I_Heap.mk ([] : List I_Page)), false).1.pages).length)], bA (((I_Heap.mk ([] : List I_Page)), false).2)]) (bl := [⟨.mx (dL 1 0 (((I_Heap.mk ([] : List I_Page)), false).1.pages)), 50, 1⟩, ⟨.fm (fam (((I_Heap.mk ([] : List I_Page)), false).1.pages)), 70, 2⟩]) [none, none] (.inl rfl) rfl (rl := [.cell 4 30, .tmp 5]) (.cellN rfl rfl rfl rfl (.tmp .nil)) rfl rfl rfl (.tupL ⟨.aggL ⟨.osn rfl, trivial⟩, .t _, trivial⟩) ⟨rfl, rfl, trivial⟩ ⟨rfl, rfl⟩
  refine PC.cond_false rfl (not_t h_11) ?_; refine PC.skip ?_; refine thA_n ?_; refine PC.seq ?_; obtain ⟨r12, h_13, hh0⟩ := bind_some hh0; refine PC.region ?_; refine PL.op rfl (Rd.loadBox rfl rfl rfl) ?_; refine PL.callM false [] (w_I_Heap_clone N p_h r12 h_13) rfl Try.call28 rfl ⟨.aggL ⟨.t _, trivial⟩, trivial⟩ rfl trivial (fun h => by cases h) ?_; refine PL.nm (.agg [.os 5 0 r12.pages.length]) [some ⟨.mx [sL p_h.pages], 30, 0⟩, some ⟨.mx [iA p_r.page, iA p_r.slot], 34, 0⟩, some ⟨.mx [.t (.v (.slice none 0 0))], 30, 0⟩, some ⟨.mx [.os 4 0 r9.1.slots.length], 50, 0⟩, some ⟨.tr (eL r9.1.slots), 70, 2⟩, some ⟨.mx (dL 6 0 r12.pages), 50, 1⟩, some ⟨.fm (fam r12.pages), 70, 2⟩] rfl (by (conv => rhs; rw [show dL 6 0 r12.pages = AV.renL (thet [] 5) (dL 1 0 r12.pages) from (dL_ren (thet [] 5) 1 0 r12.pages).symm]); rfl) ?_; refine PL.ef rfl (Ef.alloc rfl rfl) ?_; refine PL.nm (.op 7 0) [some ⟨.mx [sL p_h.pages], 30, 0⟩, some ⟨.mx [iA p_r.page, iA p_r.slot], 34, 0⟩, some ⟨.mx [.t (.v (.slice none 0 0))], 30, 0⟩, some ⟨.mx [.os 4 0 r9.1.slots.length], 50, 0⟩, some ⟨.tr (eL r9.1.slots), 70, 2⟩, some ⟨.mx (dL 6 0 r12.pages), 50, 1⟩, some ⟨.fm (fam r12.pages), 70, 2⟩, some ⟨.mx [.t (.v (.slice none 0 0))], 30, 0⟩] rfl rfl ?_; refine PL.store rfl rfl rfl rfl rfl rfl rfl ?_; refine PL.nO [some ⟨.mx [sL p_h.pages], 30, 0⟩, some ⟨.mx [iA p_r.page, iA p_r.slot], 34, 0⟩, some ⟨.mx [.t (.v (.slice none 0 0))], 30, 0⟩, some ⟨.mx [.os 4 0 r9.1.slots.length], 50, 0⟩, some ⟨.tr (eL r9.1.slots), 70, 2⟩, some ⟨.mx (dL 6 0 r12.pages), 50, 1⟩, some ⟨.fm (fam r12.pages), 70, 2⟩, some ⟨.mx [.os 5 0 r12.pages.length], 30, 0⟩] rfl ?_; refine PL.nil ?_; refine thA_n ?_; refine PC.seq ?_; obtain ⟨x14, h_15, hh0⟩ := bind_some hh0; refine PC.region ?_; refine PL.op rfl (Rd.fieldO rfl rfl) ?_; refine PL.op rfl (Rd.loadO rfl rfl rfl) ?_; refine PL.op rfl (Rd.fieldO rfl rfl) ?_; refine PL.op rfl (Rd.loadO rfl rfl rfl) ?_; refine PL.op rfl (Rd.loadBox rfl rfl rfl) ?_; refine PL.op rfl (Rd.ixOM rfl rfl rfl (ixI_lt h_15)) ?_; refine PL.adSM hs r9.1 rfl rfl rfl rfl rfl rfl rfl rfl h_15 rfl rfl rfl rfl rfl rfl rfl ?_; refine PL.nO [some ⟨.mx [sL p_h.pages], 30, 0⟩, some ⟨.mx [iA p_r.page, iA p_r.slot], 34, 0⟩, some ⟨.mx [.t (.v (.slice none 0 0))], 30, 0⟩, some ⟨.mx [.os 4 0 r9.1.slots.length], 50, 0⟩, none, some ⟨.mx (dL 8 0 (r12.pages.set p_r.page.toNat r9.1)), 50, 1⟩, none, some ⟨.mx [.os 5 0 r12.pages.length], 30, 0⟩, some ⟨.fm (fam (r12.pages.set p_r.page.toNat r9.1)), 70, 2⟩] rfl ?_; refine PL.nil ?_; refine thA_n ?_; refine PC.seq ?_; refine PC.region ?_; refine PL.op rfl (Rd.loadBox rfl rfl rfl) ?_; refine PL.store rfl rfl rfl rfl rfl rfl rfl ?_; refine PL.nO [some ⟨.mx [sL p_h.pages], 30, 0⟩, some ⟨.mx [iA p_r.page, iA p_r.slot], 34, 0⟩, some ⟨.mx [.os 5 0 r12.pages.length], 30, 0⟩, some ⟨.mx [.os 4 0 r9.1.slots.length], 50, 0⟩, none, some ⟨.mx (dL 8 0 (r12.pages.set p_r.page.toNat r9.1)), 50, 1⟩, none, some ⟨.mx [.os 5 0 r12.pages.length], 30, 0⟩, some ⟨.fm (fam (r12.pages.set p_r.page.toNat r9.1)), 70, 2⟩] rfl ?_; refine PL.op rfl (Rd.asnT rfl) ?_; refine PL.nil ?_; refine thA_n ?_; refine PC.ret ?_; obtain rfl := some_in hh0; exact FinA.mk (r := .tup [.agg [.os 0 0 ((((I_Heap.mk (r12.pages.set p_r.page.toNat r9.1)), true).1.pages).length)], bA (((I_Heap.mk (r12.pages.set p_r.page.toNat r9.1)), true).2)]) (bl := [⟨.mx (dL 1 0 (((I_Heap.mk (r12.pages.set p_r.page.toNat r9.1)), true).1.pages)), 50, 1⟩, ⟨.fm (fam (((I_Heap.mk (r12.pages.set p_r.page.toNat r9.1)), true).1.pages)), 70, 2⟩]) [some 5, some 8] (.inl rfl) rfl (rl := [.cell 4 30, .tmp 5]) (.cellN rfl rfl rfl rfl (.tmp .nil)) rfl rfl rfl (.tupL ⟨.aggL ⟨.osE rfl (by simp only [List.length_set]), trivial⟩, .t _, trivial⟩) ⟨⟨_, rfl, rfl, rfl, .mx (sb_dL rfl 0 _)⟩, ⟨_, rfl, rfl, rfl, .fm _⟩, trivial⟩ ⟨rfl, rfl⟩
def m_I_HeapUpdate (N : Nat) (p_h : I_Heap) (p_r : I_Rid) (p_data : ByteArray) : Option (I_Heap × I_Rid × Bool) :=
  (m_I_ValidHeap N p_h).bind fun r1 =>
  cond r1
    ((m_I_Heap_has N p_h p_r.page).bind fun r4 =>
    cond r4
      ((ixI p_h.pages p_r.page).bind fun x7 =>
      (m_I_SetSlot N x7 p_r.slot p_data).bind fun r9 =>
      cond r9.2
        ((m_I_Heap_clone N p_h).bind fun r12 =>
        (ixI r12.pages p_r.page).bind fun x14 =>
        some ((I_Heap.mk (r12.pages.set p_r.page.toNat r9.1)), p_r, true))
        ((m_I_HeapDelete N p_h p_r).bind fun r16 =>
        cond r16.2
          ((m_I_HeapInsert N r16.1 p_data).bind fun r19 =>
          some (r19.1, r19.2.1, r19.2.2))
          (some ((I_Heap.mk ([] : List I_Page)), (I_Rid.mk (0 : Int) (0 : Int)), false))))
      (some ((I_Heap.mk ([] : List I_Page)), (I_Rid.mk (0 : Int) (0 : Int)), false)))
    (some ((I_Heap.mk ([] : List I_Page)), (I_Rid.mk (0 : Int) (0 : Int)), false))
theorem w_I_HeapUpdate (N : Nat) (p_h : I_Heap) (p_r : I_Rid) (p_data : ByteArray) (r : I_Heap × I_Rid × Bool) (hh0 : m_I_HeapUpdate N p_h p_r p_data = some r) : FnX Try.prog 18 [] [.agg [sL p_h.pages], .agg [iA p_r.page, iA p_r.slot], sA p_data] (RE (.tup [.agg [.os 0 0 r.1.pages.length], .agg [iA r.2.1.page, iA r.2.1.slot], bA r.2.2]) [⟨.mx (dL 1 0 r.1.pages), 50, 1⟩, ⟨.fm (fam r.1.pages), 70, 2⟩]) := by
  unfold m_I_HeapUpdate at hh0; refine FnX.mk Try.func18 rfl rfl ?_; intro s hs; refine PC.seq ?_; refine PC.region ?_; refine PL.ef rfl (Ef.box rfl rfl rfl) ?_; refine PL.nm (.op 0 0) [some ⟨.mx [sL p_h.pages], 30, 0⟩] rfl rfl ?_; refine PL.ef rfl (Ef.box rfl rfl rfl) ?_; refine PL.nm (.op 1 0) [some ⟨.mx [sL p_h.pages], 30, 0⟩, some ⟨.mx [iA p_r.page, iA p_r.slot], 34, 0⟩] rfl rfl ?_; refine PL.ef rfl (Ef.alloc rfl rfl) ?_; refine PL.nm (.op 2 0) [some ⟨.mx [sL p_h.pages], 30, 0⟩, some ⟨.mx [iA p_r.page, iA p_r.slot], 34, 0⟩, some ⟨.mx [.t (.v (.slice none 0 0))], 30, 0⟩] rfl rfl ?_; refine PL.ef rfl (Ef.alloc rfl rfl) ?_; refine PL.nm (.op 3 0) [some ⟨.mx [sL p_h.pages], 30, 0⟩, some ⟨.mx [iA p_r.page, iA p_r.slot], 34, 0⟩, some ⟨.mx [.t (.v (.slice none 0 0))], 30, 0⟩, some ⟨.mx [iA (0 : Int), iA (0 : Int)], 34, 0⟩] rfl rfl ?_; refine PL.op rfl (Rd.asnT rfl) ?_; refine PL.nil ?_; refine thA_n ?_; (iterate 2 refine PC.seq ?_); obtain ⟨r1, h_2, hh0⟩ := bind_some hh0; rcases cond_some hh0 with ⟨h_3, hh0⟩ | ⟨h_3, hh0⟩; rotate_left
  · refine PC.region ?_; refine PL.op rfl (Rd.loadBox rfl rfl rfl) ?_; refine PL.callM false [] (w_I_ValidHeap N p_h r1 h_2) rfl Try.call25 rfl ⟨.aggL ⟨.t _, trivial⟩, trivial⟩ rfl trivial (fun h => by cases h) ?_; refine PL.op rfl (Rd.unnot rfl) ?_; refine PL.op rfl (Rd.moveT rfl) ?_; (iterate 5 refine PL.guard_off rfl rfl (not_f h_3) ?_); refine PL.op rfl (Rd.pick_t rfl (not_f h_3)) ?_; refine PL.nil ?_; refine thA_n ?_; refine PC.cond_true rfl rfl ?_; refine PC.seq ?_; refine PC.region ?_; (iterate 2 refine PL.op rfl (Rd.build rfl rfl rfl rfl) ?_); (iterate 2 refine PL.store rfl rfl rfl rfl rfl rfl rfl ?_); refine PL.op rfl (Rd.asnT rfl) ?_; refine PL.nil ?_; refine thA_n ?_; refine PC.ret ?_; refine thA_r ?_; obtain rfl := some_in hh0; exact FinA.mk (r := .tup [.agg [.os 0 0 ((((I_Heap.mk ([] : List I_Page)), (I_Rid.mk (0 : Int) (0 : Int)), false).1.pages).length)], .agg [iA (((I_Heap.mk ([] : List I_Page)), (I_Rid.mk (0 : Int) (0 : Int)), false).2.1.page), iA (((I_Heap.mk ([] : List I_Page)), (I_Rid.mk (0 : Int) (0 : Int)), false).2.1.slot)], bA (((I_Heap.mk ([] : List I_Page)), (I_Rid.mk (0 : Int) (0 : Int)), false).2.2)]) (bl := [⟨.mx (dL 1 0 (((I_Heap.mk ([] : List I_Page)), (I_Rid.mk (0 : Int) (0 : Int)), false).1.pages)), 50, 1⟩, ⟨.fm (fam (((I_Heap.mk ([] : List I_Page)), (I_Rid.mk (0 : Int) (0 : Int)), false).1.pages)), 70, 2⟩]) [none, none] (.inl rfl) rfl (rl := [.cell 6 30, .cell 7 34, .tmp 8]) (.cellN rfl rfl rfl rfl (.cellN rfl rfl rfl rfl (.tmp .nil))) rfl rfl rfl (.tupL ⟨.aggL ⟨.osn rfl, trivial⟩, .aggL ⟨.t _, .t _, trivial⟩, .t _, trivial⟩) ⟨rfl, rfl, trivial⟩ ⟨rfl, rfl⟩
  obtain ⟨r4, h_5, hh0⟩ := bind_some hh0; refine PC.region ?_; refine PL.op rfl (Rd.loadBox rfl rfl rfl) ?_; refine PL.callM false [] (w_I_ValidHeap N p_h r1 h_2) rfl Try.call25 rfl ⟨.aggL ⟨.t _, trivial⟩, trivial⟩ rfl trivial (fun h => by cases h) ?_; refine PL.op rfl (Rd.unnot rfl) ?_; refine PL.op rfl (Rd.moveT rfl) ?_; refine PL.guard_on rfl (not_t h_3) ?_; refine PL.op rfl (Rd.loadBox rfl rfl rfl) ?_; refine PL.guard_on rfl (not_t h_3) ?_; refine PL.op rfl (Rd.fieldO rfl rfl) ?_; refine PL.guard_on rfl (not_t h_3) ?_; refine PL.op rfl (Rd.loadO rfl rfl rfl) ?_; refine PL.guard_on rfl (not_t h_3) ?_; refine PL.callM false [] (w_I_Heap_has N p_h p_r.page r4 h_5) rfl Try.call26 rfl ⟨.aggL ⟨.t _, trivial⟩, .t _, trivial⟩ rfl trivial (fun h => by cases h) ?_; refine PL.guard_on rfl (not_t h_3) ?_; refine PL.op rfl (Rd.unnot rfl) ?_; refine PL.op rfl (Rd.pick_f rfl (not_t h_3)) ?_; refine PL.nil ?_; refine thA_n ?_; rcases cond_some hh0 with ⟨h_6, hh0⟩ | ⟨h_6, hh0⟩; rotate_left
  · refine PC.cond_true rfl (not_f h_6) ?_; refine PC.seq ?_; refine PC.region ?_; (iterate 2 refine PL.op rfl (Rd.build rfl rfl rfl rfl) ?_); (iterate 2 refine PL.store rfl rfl rfl rfl rfl rfl rfl ?_); refine PL.op rfl (Rd.asnT rfl) ?_; refine PL.nil ?_; refine thA_n ?_; refine PC.ret ?_; refine thA_r ?_; obtain rfl := some_in hh0; exact FinA.mk (r := .tup [.agg [.os 0 0 ((((I_Heap.mk ([] : List I_Page)), (I_Rid.mk (0 : Int) (0 : Int)), false).1.pages).length)], .agg [iA (((I_Heap.mk ([] : List I_Page)), (I_Rid.mk (0 : Int) (0 : Int)), false).2.1.page), iA (((I_Heap.mk ([] : List I_Page)), (I_Rid.mk (0 : Int) (0 : Int)), false).2.1.slot)], bA (((I_Heap.mk ([] : List I_Page)), (I_Rid.mk (0 : Int) (0 : Int)), false).2.2)]) (bl := [⟨.mx (dL 1 0 (((I_Heap.mk ([] : List I_Page)), (I_Rid.mk (0 : Int) (0 : Int)), false).1.pages)), 50, 1⟩, ⟨.fm (fam (((I_Heap.mk ([] : List I_Page)), (I_Rid.mk (0 : Int) (0 : Int)), false).1.pages)), 70, 2⟩]) [none, none] (.inl rfl) rfl (rl := [.cell 6 30, .cell 7 34, .tmp 8]) (.cellN rfl rfl rfl rfl (.cellN rfl rfl rfl rfl (.tmp .nil))) rfl rfl rfl (.tupL ⟨.aggL ⟨.osn rfl, trivial⟩, .aggL ⟨.t _, .t _, trivial⟩, .t _, trivial⟩) ⟨rfl, rfl, trivial⟩ ⟨rfl, rfl⟩
  refine PC.cond_false rfl (not_t h_6) ?_; refine PC.skip ?_; refine thA_n ?_; refine PC.seq ?_; obtain ⟨x7, h_8, hh0⟩ := bind_some hh0; obtain ⟨r9, h_10, hh0⟩ := bind_some hh0; refine PC.cut hs (fun _ : Unit => [(2, sA p_data), (3, .op 0 0), (4, .op 1 0), (6, .op 2 0), (7, .op 3 0), (9, .op 4 0), (10, bA r9.2)]) (fun _ => [⟨.mx [sL p_h.pages], 30, 0⟩, ⟨.mx [iA p_r.page, iA p_r.slot], 34, 0⟩, ⟨.mx [.t (.v (.slice none 0 0))], 30, 0⟩, ⟨.mx [iA (0 : Int), iA (0 : Int)], 34, 0⟩, ⟨.mx [.os 5 0 r9.1.slots.length], 50, 0⟩, ⟨.tr (eL r9.1.slots), 70, 2⟩]) (fun _ => True) ?_ ?_
  · refine PC.any (id := 3) 16 (.seg [0, 1, 2, 3, 4, 5, 6, 7, 8] (.fork (.seg [9, 10, 11, 12, 13, 14, 15] .done) (.seg [13, 9, 10, 11, 12, 14, 15] .done))) [] rfl (by kernel_rfl) rfl ?_; refine PT.seg ?_; refine PR.op rfl (Rd.fieldO rfl rfl) ?_; refine PR.op rfl (Rd.loadO rfl rfl rfl) ?_; refine PR.op rfl (Rd.fieldO rfl rfl) ?_; refine PR.op rfl (Rd.loadO rfl rfl rfl) ?_; refine PR.op rfl (Rd.ixM rfl rfl h_8) ?_; refine PR.op rfl (Rd.elMR rfl h_8 rfl rfl) ?_; refine PR.op rfl (Rd.fieldO rfl rfl) ?_; refine PR.op rfl (Rd.loadO rfl rfl rfl) ?_; refine PR.op rfl (Rd.moveT rfl) ?_; refine PR.nil ?_; refine PT.fork ?_ ?_
    · refine PT.seg ?_; refine PR.callM false [] (w_I_SetSlot N x7 p_r.slot p_data r9 h_10) rfl Try.call35 rfl ⟨.aggL ⟨.t _, trivial⟩, .t _, .t _, trivial⟩ rfl trivial (fun h => by cases h) rfl ?_; refine PR.nm (.tup [.agg [.os 4 0 r9.1.slots.length], bA r9.2]) [some ⟨.mx [sL p_h.pages], 30, 0⟩, some ⟨.mx [iA p_r.page, iA p_r.slot], 34, 0⟩, some ⟨.mx [.t (.v (.slice none 0 0))], 30, 0⟩, some ⟨.mx [iA (0 : Int), iA (0 : Int)], 34, 0⟩, some ⟨.tr (eL r9.1.slots), 70, 2⟩] rfl rfl ?_; refine PR.op rfl (Rd.moveU rfl) ?_; (iterate 2 refine PR.op rfl (Rd.extract rfl rfl) ?_); refine PR.efX rfl rfl (Ef.alloc rfl rfl) ?_; refine PR.nm (.op 5 0) [some ⟨.mx [sL p_h.pages], 30, 0⟩, some ⟨.mx [iA p_r.page, iA p_r.slot], 34, 0⟩, some ⟨.mx [.t (.v (.slice none 0 0))], 30, 0⟩, some ⟨.mx [iA (0 : Int), iA (0 : Int)], 34, 0⟩, some ⟨.tr (eL r9.1.slots), 70, 2⟩, some ⟨.mx [.t (.v (.slice none 0 0))], 50, 0⟩] rfl rfl ?_; refine PR.store rfl rfl rfl rfl rfl rfl rfl rfl ?_; refine PR.nO [some ⟨.mx [sL p_h.pages], 30, 0⟩, some ⟨.mx [iA p_r.page, iA p_r.slot], 34, 0⟩, some ⟨.mx [.t (.v (.slice none 0 0))], 30, 0⟩, some ⟨.mx [iA (0 : Int), iA (0 : Int)], 34, 0⟩, some ⟨.tr (eL r9.1.slots), 70, 2⟩, some ⟨.mx [.os 4 0 r9.1.slots.length], 50, 0⟩] rfl ?_; refine PR.op rfl (Rd.asnT rfl) ?_; refine PR.nil ?_; refine PT.done ?_; refine PL.nil ?_; refine thA_n ?_; exact ⟨(), trivial, [some 0, some 1, some 2, some 3, some 5, some 4], ⟨rfl, rfl, ⟨⟨_, rfl, rfl, rfl, .mx ⟨.t _, trivial⟩⟩, ⟨_, rfl, rfl, rfl, .mx ⟨.t _, .t _, trivial⟩⟩, ⟨_, rfl, rfl, rfl, .mx ⟨.t _, trivial⟩⟩, ⟨_, rfl, rfl, rfl, .mx ⟨.t _, .t _, trivial⟩⟩, ⟨_, rfl, rfl, rfl, .mx ⟨.os rfl, trivial⟩⟩, ⟨_, rfl, rfl, rfl, .tr _⟩, trivial⟩, ⟨.t _, .op rfl, .op rfl, .op rfl, .op rfl, .op rfl, .t _, trivial⟩⟩⟩
    refine PT.seg ?_; refine PR.efX rfl rfl (Ef.alloc rfl rfl) ?_; refine PR.nm (.op 4 0) [some ⟨.mx [sL p_h.pages], 30, 0⟩, some ⟨.mx [iA p_r.page, iA p_r.slot], 34, 0⟩, some ⟨.mx [.t (.v (.slice none 0 0))], 30, 0⟩, some ⟨.mx [iA (0 : Int), iA (0 : Int)], 34, 0⟩, some ⟨.mx [.t (.v (.slice none 0 0))], 50, 0⟩] rfl rfl ?_; refine PR.callM false [] (w_I_SetSlot N x7 p_r.slot p_data r9 h_10) rfl Try.call35 rfl ⟨.aggL ⟨.t _, trivial⟩, .t _, .t _, trivial⟩ rfl trivial (fun h => by cases h) rfl ?_; refine PR.nm (.tup [.agg [.os 5 0 r9.1.slots.length], bA r9.2]) [some ⟨.mx [sL p_h.pages], 30, 0⟩, some ⟨.mx [iA p_r.page, iA p_r.slot], 34, 0⟩, some ⟨.mx [.t (.v (.slice none 0 0))], 30, 0⟩, some ⟨.mx [iA (0 : Int), iA (0 : Int)], 34, 0⟩, some ⟨.mx [.t (.v (.slice none 0 0))], 50, 0⟩, some ⟨.tr (eL r9.1.slots), 70, 2⟩] rfl rfl ?_; refine PR.op rfl (Rd.moveU rfl) ?_; (iterate 2 refine PR.op rfl (Rd.extract rfl rfl) ?_); refine PR.store rfl rfl rfl rfl rfl rfl rfl rfl ?_; refine PR.nO [some ⟨.mx [sL p_h.pages], 30, 0⟩, some ⟨.mx [iA p_r.page, iA p_r.slot], 34, 0⟩, some ⟨.mx [.t (.v (.slice none 0 0))], 30, 0⟩, some ⟨.mx [iA (0 : Int), iA (0 : Int)], 34, 0⟩, some ⟨.mx [.os 5 0 r9.1.slots.length], 50, 0⟩, some ⟨.tr (eL r9.1.slots), 70, 2⟩] rfl ?_; refine PR.op rfl (Rd.asnT rfl) ?_; refine PR.nil ?_; refine PT.done ?_; refine PL.nil ?_; refine thA_n ?_; exact ⟨(), trivial, [some 0, some 1, some 2, some 3, some 4, some 5], ⟨rfl, rfl, ⟨⟨_, rfl, rfl, rfl, .mx ⟨.t _, trivial⟩⟩, ⟨_, rfl, rfl, rfl, .mx ⟨.t _, .t _, trivial⟩⟩, ⟨_, rfl, rfl, rfl, .mx ⟨.t _, trivial⟩⟩, ⟨_, rfl, rfl, rfl, .mx ⟨.t _, .t _, trivial⟩⟩, ⟨_, rfl, rfl, rfl, .mx ⟨.os rfl, trivial⟩⟩, ⟨_, rfl, rfl, rfl, .tr _⟩, trivial⟩, ⟨.t _, .op rfl, .op rfl, .op rfl, .op rfl, .op rfl, .t _, trivial⟩⟩⟩
  rintro ⟨⟩ -
  refine PC.seq ?_; refine PC.region ?_; refine PL.op rfl (Rd.moveT rfl) ?_; refine PL.nil ?_; refine thA_n ?_; rcases cond_some hh0 with ⟨h_11, hh0⟩ | ⟨h_11, hh0⟩
  · refine PC.cond_true rfl h_11 ?_; refine PC.seq ?_; obtain ⟨r12, h_13, hh0⟩ := bind_some hh0; refine PC.region ?_; refine PL.op rfl (Rd.loadBox rfl rfl rfl) ?_; refine PL.callM false [] (w_I_Heap_clone N p_h r12 h_13) rfl Try.call28 rfl ⟨.aggL ⟨.t _, trivial⟩, trivial⟩ rfl trivial (fun h => by cases h) ?_; refine PL.nm (.agg [.os 6 0 r12.pages.length]) [some ⟨.mx [sL p_h.pages], 30, 0⟩, some ⟨.mx [iA p_r.page, iA p_r.slot], 34, 0⟩, some ⟨.mx [.t (.v (.slice none 0 0))], 30, 0⟩, some ⟨.mx [iA (0 : Int), iA (0 : Int)], 34, 0⟩, some ⟨.mx [.os 5 0 r9.1.slots.length], 50, 0⟩, some ⟨.tr (eL r9.1.slots), 70, 2⟩, some ⟨.mx (dL 7 0 r12.pages), 50, 1⟩, some ⟨.fm (fam r12.pages), 70, 2⟩] rfl (by (conv => rhs; rw [show dL 7 0 r12.pages = AV.renL (thet [] 6) (dL 1 0 r12.pages) from (dL_ren (thet [] 6) 1 0 r12.pages).symm]); rfl) ?_; refine PL.ef rfl (Ef.alloc rfl rfl) ?_; refine PL.nm (.op 8 0) [some ⟨.mx [sL p_h.pages], 30, 0⟩, some ⟨.mx [iA p_r.page, iA p_r.slot], 34, 0⟩, some ⟨.mx [.t (.v (.slice none 0 0))], 30, 0⟩, some ⟨.mx [iA (0 : Int), iA (0 : Int)], 34, 0⟩, some ⟨.mx [.os 5 0 r9.1.slots.length], 50, 0⟩, some ⟨.tr (eL r9.1.slots), 70, 2⟩, some ⟨.mx (dL 7 0 r12.pages), 50, 1⟩, some ⟨.fm (fam r12.pages), 70, 2⟩, some ⟨.mx [.t (.v (.slice none 0 0))], 30, 0⟩] rfl rfl ?_; refine PL.store rfl rfl rfl rfl rfl rfl rfl ?_; refine PL.nO [some ⟨.mx [sL p_h.pages], 30, 0⟩, some ⟨.mx [iA p_r.page, iA p_r.slot], 34, 0⟩, some ⟨.mx [.t (.v (.slice none 0 0))], 30, 0⟩, some ⟨.mx [iA (0 : Int), iA (0 : Int)], 34, 0⟩, some ⟨.mx [.os 5 0 r9.1.slots.length], 50, 0⟩, some ⟨.tr (eL r9.1.slots), 70, 2⟩, some ⟨.mx (dL 7 0 r12.pages), 50, 1⟩, some ⟨.fm (fam r12.pages), 70, 2⟩, some ⟨.mx [.os 6 0 r12.pages.length], 30, 0⟩] rfl ?_; refine PL.nil ?_; refine thA_n ?_; refine PC.seq ?_; obtain ⟨x14, h_15, hh0⟩ := bind_some hh0; refine PC.region ?_; refine PL.op rfl (Rd.fieldO rfl rfl) ?_; refine PL.op rfl (Rd.loadO rfl rfl rfl) ?_; refine PL.op rfl (Rd.fieldO rfl rfl) ?_; refine PL.op rfl (Rd.loadO rfl rfl rfl) ?_; refine PL.op rfl (Rd.loadBox rfl rfl rfl) ?_; refine PL.op rfl (Rd.ixOM rfl rfl rfl (ixI_lt h_15)) ?_; refine PL.adSM hs r9.1 rfl rfl rfl rfl rfl rfl rfl rfl h_15 rfl rfl rfl rfl rfl rfl rfl ?_; refine PL.nO [some ⟨.mx [sL p_h.pages], 30, 0⟩, some ⟨.mx [iA p_r.page, iA p_r.slot], 34, 0⟩, some ⟨.mx [.t (.v (.slice none 0 0))], 30, 0⟩, some ⟨.mx [iA (0 : Int), iA (0 : Int)], 34, 0⟩, some ⟨.mx [.os 5 0 r9.1.slots.length], 50, 0⟩, none, some ⟨.mx (dL 9 0 (r12.pages.set p_r.page.toNat r9.1)), 50, 1⟩, none, some ⟨.mx [.os 6 0 r12.pages.length], 30, 0⟩, some ⟨.fm (fam (r12.pages.set p_r.page.toNat r9.1)), 70, 2⟩] rfl ?_; refine PL.nil ?_; refine thA_n ?_; refine PC.seq ?_; refine PC.any (id := 7) 5 (.seg [0, 1, 2, 3, 4] .done) [2, 3] rfl (by kernel_rfl) rfl ?_; refine PT.seg ?_; (iterate 2 refine PR.op rfl (Rd.loadBox rfl rfl rfl) ?_); refine PR.store rfl rfl rfl rfl rfl rfl rfl rfl ?_; refine PR.nO [some ⟨.mx [sL p_h.pages], 30, 0⟩, some ⟨.mx [iA p_r.page, iA p_r.slot], 34, 0⟩, some ⟨.mx [.os 6 0 r12.pages.length], 30, 0⟩, some ⟨.mx [iA (0 : Int), iA (0 : Int)], 34, 0⟩, some ⟨.mx [.os 5 0 r9.1.slots.length], 50, 0⟩, none, some ⟨.mx (dL 9 0 (r12.pages.set p_r.page.toNat r9.1)), 50, 1⟩, none, some ⟨.mx [.os 6 0 r12.pages.length], 30, 0⟩, some ⟨.fm (fam (r12.pages.set p_r.page.toNat r9.1)), 70, 2⟩] rfl ?_; refine PR.store rfl rfl rfl rfl rfl rfl rfl rfl ?_; refine PR.nO [some ⟨.mx [sL p_h.pages], 30, 0⟩, some ⟨.mx [iA p_r.page, iA p_r.slot], 34, 0⟩, some ⟨.mx [.os 6 0 r12.pages.length], 30, 0⟩, some ⟨.mx [iA p_r.page, iA p_r.slot], 34, 0⟩, some ⟨.mx [.os 5 0 r9.1.slots.length], 50, 0⟩, none, some ⟨.mx (dL 9 0 (r12.pages.set p_r.page.toNat r9.1)), 50, 1⟩, none, some ⟨.mx [.os 6 0 r12.pages.length], 30, 0⟩, some ⟨.fm (fam (r12.pages.set p_r.page.toNat r9.1)), 70, 2⟩] rfl ?_; refine PR.op rfl (Rd.asnT rfl) ?_; refine PR.nil ?_; refine PT.done ?_; refine PL.nil ?_; refine thA_n ?_; refine PC.ret ?_; refine thA_r ?_; obtain rfl := some_in hh0; exact FinA.mk (r := .tup [.agg [.os 0 0 ((((I_Heap.mk (r12.pages.set p_r.page.toNat r9.1)), p_r, true).1.pages).length)], .agg [iA (((I_Heap.mk (r12.pages.set p_r.page.toNat r9.1)), p_r, true).2.1.page), iA (((I_Heap.mk (r12.pages.set p_r.page.toNat r9.1)), p_r, true).2.1.slot)], bA (((I_Heap.mk (r12.pages.set p_r.page.toNat r9.1)), p_r, true).2.2)]) (bl := [⟨.mx (dL 1 0 (((I_Heap.mk (r12.pages.set p_r.page.toNat r9.1)), p_r, true).1.pages)), 50, 1⟩, ⟨.fm (fam (((I_Heap.mk (r12.pages.set p_r.page.toNat r9.1)), p_r, true).1.pages)), 70, 2⟩]) [some 6, some 9] (.inl rfl) rfl (rl := [.cell 6 30, .cell 7 34, .tmp 8]) (.cellN rfl rfl rfl rfl (.cellN rfl rfl rfl rfl (.tmp .nil))) rfl rfl rfl (.tupL ⟨.aggL ⟨.osE rfl (by simp only [List.length_set]), trivial⟩, .aggL ⟨.t _, .t _, trivial⟩, .t _, trivial⟩) ⟨⟨_, rfl, rfl, rfl, .mx (sb_dL rfl 0 _)⟩, ⟨_, rfl, rfl, rfl, .fm _⟩, trivial⟩ ⟨rfl, rfl⟩
  refine PC.cond_false rfl h_11 ?_; refine PC.skip ?_; refine thA_n ?_; refine PC.seq ?_; obtain ⟨r16, h_17, hh0⟩ := bind_some hh0; refine PC.region ?_; (iterate 2 refine PL.op rfl (Rd.loadBox rfl rfl rfl) ?_); refine PL.callM false [] (w_I_HeapDelete N p_h p_r r16 h_17) rfl Try.call10 rfl ⟨.aggL ⟨.t _, trivial⟩, .aggL ⟨.t _, .t _, trivial⟩, trivial⟩ rfl trivial (fun h => by cases h) ?_; refine PL.nm (.tup [.agg [.os 6 0 r16.1.pages.length], bA r16.2]) [some ⟨.mx [sL p_h.pages], 30, 0⟩, some ⟨.mx [iA p_r.page, iA p_r.slot], 34, 0⟩, some ⟨.mx [.t (.v (.slice none 0 0))], 30, 0⟩, some ⟨.mx [iA (0 : Int), iA (0 : Int)], 34, 0⟩, some ⟨.mx [.os 5 0 r9.1.slots.length], 50, 0⟩, some ⟨.tr (eL r9.1.slots), 70, 2⟩, some ⟨.mx (dL 7 0 r16.1.pages), 50, 1⟩, some ⟨.fm (fam r16.1.pages), 70, 2⟩] rfl (by (conv => rhs; rw [show dL 7 0 r16.1.pages = AV.renL (thet [] 6) (dL 1 0 r16.1.pages) from (dL_ren (thet [] 6) 1 0 r16.1.pages).symm]); rfl) ?_; refine PL.op rfl (Rd.moveU rfl) ?_; (iterate 2 refine PL.op rfl (Rd.extract rfl rfl) ?_); refine PL.ef rfl (Ef.alloc rfl rfl) ?_; refine PL.nm (.op 8 0) [some ⟨.mx [sL p_h.pages], 30, 0⟩, some ⟨.mx [iA p_r.page, iA p_r.slot], 34, 0⟩, some ⟨.mx [.t (.v (.slice none 0 0))], 30, 0⟩, some ⟨.mx [iA (0 : Int), iA (0 : Int)], 34, 0⟩, some ⟨.mx [.os 5 0 r9.1.slots.length], 50, 0⟩, some ⟨.tr (eL r9.1.slots), 70, 2⟩, some ⟨.mx (dL 7 0 r16.1.pages), 50, 1⟩, some ⟨.fm (fam r16.1.pages), 70, 2⟩, some ⟨.mx [.t (.v (.slice none 0 0))], 30, 0⟩] rfl rfl ?_; refine PL.store rfl rfl rfl rfl rfl rfl rfl ?_; refine PL.nO [some ⟨.mx [sL p_h.pages], 30, 0⟩, some ⟨.mx [iA p_r.page, iA p_r.slot], 34, 0⟩, some ⟨.mx [.t (.v (.slice none 0 0))], 30, 0⟩, some ⟨.mx [iA (0 : Int), iA (0 : Int)], 34, 0⟩, some ⟨.mx [.os 5 0 r9.1.slots.length], 50, 0⟩, some ⟨.tr (eL r9.1.slots), 70, 2⟩, some ⟨.mx (dL 7 0 r16.1.pages), 50, 1⟩, some ⟨.fm (fam r16.1.pages), 70, 2⟩, some ⟨.mx [.os 6 0 r16.1.pages.length], 30, 0⟩] rfl ?_; refine PL.op rfl (Rd.asnT rfl) ?_; refine PL.nil ?_; refine thA_n ?_; (iterate 2 refine PC.seq ?_); refine PC.region ?_; refine PL.op rfl (Rd.moveT rfl) ?_; refine PL.op rfl (Rd.unnot rfl) ?_; refine PL.nil ?_; refine thA_n ?_; rcases cond_some hh0 with ⟨h_18, hh0⟩ | ⟨h_18, hh0⟩; rotate_left
  · refine PC.cond_true rfl (not_f h_18) ?_; refine PC.seq ?_; refine PC.region ?_; (iterate 2 refine PL.op rfl (Rd.build rfl rfl rfl rfl) ?_); (iterate 2 refine PL.store rfl rfl rfl rfl rfl rfl rfl ?_); refine PL.op rfl (Rd.asnT rfl) ?_; refine PL.nil ?_; refine thA_n ?_; refine PC.ret ?_; refine thA_r ?_; obtain rfl := some_in hh0; exact FinA.mk (r := .tup [.agg [.os 0 0 ((((I_Heap.mk ([] : List I_Page)), (I_Rid.mk (0 : Int) (0 : Int)), false).1.pages).length)], .agg [iA (((I_Heap.mk ([] : List I_Page)), (I_Rid.mk (0 : Int) (0 : Int)), false).2.1.page), iA (((I_Heap.mk ([] : List I_Page)), (I_Rid.mk (0 : Int) (0 : Int)), false).2.1.slot)], bA (((I_Heap.mk ([] : List I_Page)), (I_Rid.mk (0 : Int) (0 : Int)), false).2.2)]) (bl := [⟨.mx (dL 1 0 (((I_Heap.mk ([] : List I_Page)), (I_Rid.mk (0 : Int) (0 : Int)), false).1.pages)), 50, 1⟩, ⟨.fm (fam (((I_Heap.mk ([] : List I_Page)), (I_Rid.mk (0 : Int) (0 : Int)), false).1.pages)), 70, 2⟩]) [none, none] (.inl rfl) rfl (rl := [.cell 6 30, .cell 7 34, .tmp 8]) (.cellN rfl rfl rfl rfl (.cellN rfl rfl rfl rfl (.tmp .nil))) rfl rfl rfl (.tupL ⟨.aggL ⟨.osn rfl, trivial⟩, .aggL ⟨.t _, .t _, trivial⟩, .t _, trivial⟩) ⟨rfl, rfl, trivial⟩ ⟨rfl, rfl⟩
  refine PC.cond_false rfl (not_t h_18) ?_; refine PC.skip ?_; refine thA_n ?_; refine PC.seq ?_; obtain ⟨r19, h_20, hh0⟩ := bind_some hh0; refine PC.region ?_; refine PL.op rfl (Rd.loadBox rfl rfl rfl) ?_; refine PL.op rfl (Rd.moveT rfl) ?_; refine PL.callM true [] (w_I_HeapInsert N r16.1 p_data r19 h_20) rfl Try.call15 rfl ⟨.aggL ⟨(Sb.fzD rfl rfl (by first | decide | exact List.not_mem_nil) (by first | decide | exact List.not_mem_nil) rfl rfl rfl), trivial⟩, .t _, trivial⟩ rfl trivial (fun _ => ⟨⟨⟨trivial, trivial⟩, ⟨trivial, trivial, trivial⟩, trivial, trivial⟩, (flat_cons flat_dp (flat_cons flat_fm flat_nil))⟩) ?_; refine PL.nm (.tup [.agg [.os 9 0 r19.1.pages.length], .agg [iA r19.2.1.page, iA r19.2.1.slot], bA r19.2.2]) [some ⟨.mx [sL p_h.pages], 30, 0⟩, some ⟨.mx [iA p_r.page, iA p_r.slot], 34, 0⟩, some ⟨.mx [.t (.v (.slice none 0 0))], 30, 0⟩, some ⟨.mx [iA (0 : Int), iA (0 : Int)], 34, 0⟩, some ⟨.mx [.os 5 0 r9.1.slots.length], 50, 0⟩, some ⟨.tr (eL r9.1.slots), 70, 2⟩, some ⟨.mx (dL 7 0 r16.1.pages), 50, 1⟩, some ⟨.fm (fam r16.1.pages), 70, 2⟩, some ⟨.mx [.os 6 0 r16.1.pages.length], 30, 0⟩, some ⟨.mx (dL 10 0 r19.1.pages), 50, 1⟩, some ⟨.fm (fam r19.1.pages), 70, 2⟩] rfl (by (conv => rhs; rw [show dL 10 0 r19.1.pages = AV.renL (thet [] 9) (dL 1 0 r19.1.pages) from (dL_ren (thet [] 9) 1 0 r19.1.pages).symm]); rfl) ?_; (iterate 3 refine PL.op rfl (Rd.extract rfl rfl) ?_); refine PL.store rfl rfl rfl rfl rfl rfl rfl ?_; refine PL.nO [some ⟨.mx [sL p_h.pages], 30, 0⟩, some ⟨.mx [iA p_r.page, iA p_r.slot], 34, 0⟩, some ⟨.mx [.os 9 0 r19.1.pages.length], 30, 0⟩, some ⟨.mx [iA (0 : Int), iA (0 : Int)], 34, 0⟩, some ⟨.mx [.os 5 0 r9.1.slots.length], 50, 0⟩, some ⟨.tr (eL r9.1.slots), 70, 2⟩, some ⟨.mx (dL 7 0 r16.1.pages), 50, 1⟩, some ⟨.fm (fam r16.1.pages), 70, 2⟩, some ⟨.mx [.os 6 0 r16.1.pages.length], 30, 0⟩, some ⟨.mx (dL 10 0 r19.1.pages), 50, 1⟩, some ⟨.fm (fam r19.1.pages), 70, 2⟩] rfl ?_; refine PL.store rfl rfl rfl rfl rfl rfl rfl ?_; refine PL.nO [some ⟨.mx [sL p_h.pages], 30, 0⟩, some ⟨.mx [iA p_r.page, iA p_r.slot], 34, 0⟩, some ⟨.mx [.os 9 0 r19.1.pages.length], 30, 0⟩, some ⟨.mx [iA r19.2.1.page, iA r19.2.1.slot], 34, 0⟩, some ⟨.mx [.os 5 0 r9.1.slots.length], 50, 0⟩, some ⟨.tr (eL r9.1.slots), 70, 2⟩, some ⟨.mx (dL 7 0 r16.1.pages), 50, 1⟩, some ⟨.fm (fam r16.1.pages), 70, 2⟩, some ⟨.mx [.os 6 0 r16.1.pages.length], 30, 0⟩, some ⟨.mx (dL 10 0 r19.1.pages), 50, 1⟩, some ⟨.fm (fam r19.1.pages), 70, 2⟩] rfl ?_; refine PL.op rfl (Rd.asnT rfl) ?_; refine PL.nil ?_; refine thA_n ?_; refine PC.ret ?_; obtain rfl := some_in hh0; exact FinA.mk (r := .tup [.agg [.os 0 0 (((r19.1, r19.2.1, r19.2.2).1.pages).length)], .agg [iA ((r19.1, r19.2.1, r19.2.2).2.1.page), iA ((r19.1, r19.2.1, r19.2.2).2.1.slot)], bA ((r19.1, r19.2.1, r19.2.2).2.2)]) (bl := [⟨.mx (dL 1 0 ((r19.1, r19.2.1, r19.2.2).1.pages)), 50, 1⟩, ⟨.fm (fam ((r19.1, r19.2.1, r19.2.2).1.pages)), 70, 2⟩]) [some 9, some 10] (.inl rfl) rfl (rl := [.cell 6 30, .cell 7 34, .tmp 8]) (.cellN rfl rfl rfl rfl (.cellN rfl rfl rfl rfl (.tmp .nil))) rfl rfl rfl (.tupL ⟨.aggL ⟨.os rfl, trivial⟩, .aggL ⟨.t _, .t _, trivial⟩, .t _, trivial⟩) ⟨⟨_, rfl, rfl, rfl, .mx (sb_dL rfl 0 _)⟩, ⟨_, rfl, rfl, rfl, .fm _⟩, trivial⟩ ⟨rfl, rfl⟩
def m_S_validHeap_k1 (N : Nat) (p_h : I_Heap) : Option (Bool) :=
  some (decide ((p_h.pages.length : Int) ≤ (6 : Int)))
def m_S_validHeap_b1 (N : Nat) (p_h : I_Heap) (i1 : Int) : Option (Int ⊕ (Unit ⊕ Bool)) :=
  cond (decide (i1 < (p_h.pages.length : Int)))
    ((ixI p_h.pages i1).bind fun x16 =>
    (m_S_validPage N x16).bind fun r18 =>
    cond r18
      ((chk (i1 + (1 : Int))).bind fun n21 =>
      some (.inl n21))
      (some (.inr (.inr false))))
    (some (.inr (.inl ())))
def m_S_validHeap (N : Nat) (p_h : I_Heap) : Option (Bool) :=
  (loopM (β := Unit ⊕ Bool) (fun s : Int => m_S_validHeap_b1 N p_h s) N (0 : Int)).bind fun o => match o with
  | .inl e =>
    m_S_validHeap_k1 N p_h 
  | .inr v =>
    some v
theorem w_S_validHeap (N : Nat) (p_h : I_Heap) (r : Bool) (hh0 : m_S_validHeap N p_h = some r) : FnX Try.prog 20 [] [.agg [sL p_h.pages]] (RE (bA r) []) := by
  unfold m_S_validHeap at hh0; refine FnX.mk Try.func20 rfl rfl ?_; intro s hs; refine PC.seq ?_; refine PC.region ?_; refine PL.ef rfl (Ef.box rfl rfl rfl) ?_; refine PL.nm (.op 0 0) [some ⟨.mx [sL p_h.pages], 30, 0⟩] rfl rfl ?_; refine PL.op rfl (Rd.asnT rfl) ?_; refine PL.nil ?_; refine thA_n ?_; (iterate 2 refine PC.seq ?_); refine PC.region ?_; refine PL.op rfl (Rd.asnT rfl) ?_; refine PL.nil ?_; refine thA_n ?_; obtain ⟨o10, h_11, hh0⟩ := bind_some hh0; refine PC.cutE hs (fun x : Unit => [(1, .op 0 0)]) (fun x => [⟨.mx [sL p_h.pages], 30, 0⟩]) (fun x => m_S_validHeap_k1 N p_h  = some r) ?_ ?_
  · refine PC.block ?_; refine PC.loop hs (fun x : Nat × (Int) => [(1, .op 0 0), (3, iA x.2)]) (fun x => [⟨.mx [sL p_h.pages], 30, 0⟩]) (fun x => loopM (β := Unit ⊕ Bool) (fun s : Int => m_S_validHeap_b1 N p_h s) x.1 x.2 = some o10) (fun x => x.1) (N, (0 : Int)) [some 0] ⟨rfl, rfl, ⟨⟨_, rfl, rfl, rfl, .mx ⟨.t _, trivial⟩⟩, trivial⟩, ⟨.op rfl, .t _, trivial⟩⟩ h_11 ?_
    rintro ⟨f12_, i1⟩ h_14
    obtain ⟨f12, y13, rfl, hh1, kk1⟩ := loopM_some h_14
    replace hh1 : m_S_validHeap_b1 N p_h i1 = some y13 := hh1
    unfold m_S_validHeap_b1 at hh1; (iterate 2 refine PC.seq ?_); refine PC.region ?_; refine PL.op rfl (Rd.moveT rfl) ?_; refine PL.op rfl (Rd.fieldO rfl rfl) ?_; refine PL.op rfl (Rd.loadO rfl rfl rfl) ?_; refine PL.op rfl (Rd.lenT rfl) ?_; refine PL.op rfl (Rd.lss rfl rfl) ?_; refine PL.nil ?_; refine thA_n ?_; rcases cond_some hh1 with ⟨h_15, hh1⟩ | ⟨h_15, hh1⟩; rotate_left
    · refine PC.cond_false rfl h_15 ?_; refine PC.exit ?_; (iterate 2 refine thA_e ?_); refine inA_eq rfl ?_; refine thA_n ?_; obtain rfl := some_in hh1; obtain rfl : (.inl () : Unit ⊕ Bool) = o10 := kk1; exact ⟨(), hh0, [some 0], ⟨rfl, rfl, ⟨⟨_, rfl, rfl, rfl, .mx ⟨.t _, trivial⟩⟩, trivial⟩, ⟨.op rfl, trivial⟩⟩⟩
    refine PC.cond_true rfl h_15 ?_; refine PC.skip ?_; refine thA_n ?_; refine PC.seq ?_; refine PC.block ?_; refine PC.seq ?_; obtain ⟨x16, h_17, hh1⟩ := bind_some hh1; obtain ⟨r18, h_19, hh1⟩ := bind_some hh1; refine PC.region ?_; refine PL.op rfl (Rd.fieldO rfl rfl) ?_; refine PL.op rfl (Rd.loadO rfl rfl rfl) ?_; refine PL.op rfl (Rd.moveT rfl) ?_; refine PL.op rfl (Rd.ixM rfl rfl h_17) ?_; refine PL.op rfl (Rd.elMR rfl h_17 rfl rfl) ?_; refine PL.callM false [] (w_S_validPage N x16 r18 h_19) rfl Try.call37 rfl ⟨.aggL ⟨.t _, trivial⟩, trivial⟩ rfl trivial (fun h => by cases h) ?_; refine PL.op rfl (Rd.unnot rfl) ?_; refine PL.nil ?_; refine thA_n ?_; rcases cond_some hh1 with ⟨h_20, hh1⟩ | ⟨h_20, hh1⟩
    · refine PC.cond_false rfl (not_t h_20) ?_; refine PC.skip ?_; refine inA_n ?_; refine thA_n ?_; obtain ⟨n21, h_22, hh1⟩ := bind_some hh1; refine PC.region ?_; refine PL.op rfl (Rd.moveT rfl) ?_; refine PL.op rfl (Rd.addM rfl rfl h_22) ?_; refine PL.op rfl (Rd.asnT rfl) ?_; refine PL.nil ?_; obtain rfl := some_in hh1; refine thA_n ?_; exact ⟨(f12, n21), Nat.lt_succ_self _, kk1, [some 0], ⟨rfl, rfl, ⟨⟨_, rfl, rfl, rfl, .mx ⟨.t _, trivial⟩⟩, trivial⟩, ⟨.op rfl, .t _, trivial⟩⟩⟩
    refine PC.cond_true rfl (not_f h_20) ?_; refine PC.seq ?_; refine PC.region ?_; refine PL.op rfl (Rd.asnT rfl) ?_; refine PL.nil ?_; refine thA_n ?_; refine PC.ret ?_; refine inA_r ?_; (iterate 2 refine thA_r ?_); refine inA_r ?_; refine thA_r ?_; obtain rfl := some_in hh1; obtain rfl : (.inr false : Unit ⊕ Bool) = o10 := kk1; refine thA_r ?_; obtain rfl := some_in hh0; exact FinA.mk (r := bA false) (bl := []) [] (.inl rfl) rfl (rl := [.tmp 2]) (.tmp .nil) rfl rfl rfl (.t _) trivial ⟨rfl, rfl⟩
  clear hh0
  rintro ⟨⟩ hh0
  replace hh0 : m_S_validHeap_k1 N p_h  = some r := hh0
  unfold m_S_validHeap_k1 at hh0; refine thA_n ?_; refine PC.seq ?_; refine PC.region ?_; refine PL.op rfl (Rd.fieldO rfl rfl) ?_; refine PL.op rfl (Rd.loadO rfl rfl rfl) ?_; refine PL.op rfl (Rd.lenT rfl) ?_; refine PL.op rfl (Rd.leq rfl rfl) ?_; refine PL.op rfl (Rd.asnT rfl) ?_; refine PL.nil ?_; refine thA_n ?_; refine PC.ret ?_; obtain rfl := some_in hh0; exact FinA.mk (r := bA (decide ((p_h.pages.length : Int) ≤ (6 : Int)))) (bl := []) [] (.inl rfl) rfl (rl := [.tmp 2]) (.tmp .nil) rfl rfl rfl (.t _) trivial ⟨rfl, rfl⟩
def m_S_copyHeap_k1 (N : Nat) (v12 : (List I_Page)) : Option (I_Heap) :=
  some (I_Heap.mk v12)
def m_S_copyHeap_b1 (N : Nat) (p_h : I_Heap) (i1 : Int) (v2 : (List I_Page)) : Option ((Int × (List I_Page)) ⊕ (List I_Page)) :=
  cond (decide (i1 < (p_h.pages.length : Int)))
    ((ixI p_h.pages i1).bind fun x19 =>
    (appM 24 ([] : List I_Slot) x19.slots).bind fun xs21 =>
    (appM 24 v2 [(I_Page.mk xs21)]).bind fun xs23 =>
    (chk (i1 + (1 : Int))).bind fun n25 =>
    some (.inl (n25, xs23)))
    (some (.inr v2))
def m_S_copyHeap (N : Nat) (p_h : I_Heap) : Option (I_Heap) :=
  (loopM (β := (List I_Page)) (fun s : Int × (List I_Page) => m_S_copyHeap_b1 N p_h s.1 s.2) N ((0 : Int), ([] : List I_Page))).bind fun e =>
  m_S_copyHeap_k1 N e
theorem w_S_copyHeap (N : Nat) (p_h : I_Heap) (r : I_Heap) (hh0 : m_S_copyHeap N p_h = some r) : FnX Try.prog 23 [] [.agg [sL p_h.pages]] (RE (.agg [.os 0 0 r.pages.length]) [⟨.tr (eL r.pages), 50, 1⟩]) := by
  unfold m_S_copyHeap at hh0; refine FnX.mk Try.func23 rfl rfl ?_; intro s hs; refine PC.seq ?_; refine PC.region ?_; refine PL.ef rfl (Ef.box rfl rfl rfl) ?_; refine PL.nm (.op 0 0) [some ⟨.mx [sL p_h.pages], 30, 0⟩] rfl rfl ?_; refine PL.ef rfl (Ef.alloc rfl rfl) ?_; refine PL.nm (.op 1 0) [some ⟨.mx [sL p_h.pages], 30, 0⟩, some ⟨.mx [.t (.v (.slice none 0 0))], 30, 0⟩] rfl rfl ?_; refine PL.nil ?_; refine thA_n ?_; refine PC.seq ?_; refine PC.region ?_; refine PL.ef rfl (Ef.lit0M I_Page) ?_; refine PL.nm (.os 2 0 0) [some ⟨.mx [sL p_h.pages], 30, 0⟩, some ⟨.mx [.t (.v (.slice none 0 0))], 30, 0⟩, some ⟨.tr (eL ([] : List I_Page)), 50, 1⟩] rfl rfl ?_; refine PL.op rfl (Rd.asnO rfl) ?_; refine PL.nil ?_; refine thA_n ?_; (iterate 2 refine PC.seq ?_); refine PC.region ?_; refine PL.op rfl (Rd.asnT rfl) ?_; refine PL.nil ?_; refine thA_n ?_; obtain ⟨o13, h_14, hh0⟩ := bind_some hh0; refine PC.cutE hs (fun x : (List I_Page) => [(2, .op 0 0), (3, .os 1 0 x.length)]) (fun x => [⟨.mx [.t (.v (.slice none 0 0))], 30, 0⟩, ⟨.tr (eL x), 50, 1⟩]) (fun x => m_S_copyHeap_k1 N x = some r) ?_ ?_
  · refine PC.block ?_; refine PC.loop hs (fun x : Nat × (Int × (List I_Page)) => [(1, .op 0 0), (2, .op 1 0), (3, .os 2 0 x.2.2.length), (4, iA x.2.1)]) (fun x => [⟨.mx [sL p_h.pages], 30, 0⟩, ⟨.mx [.t (.v (.slice none 0 0))], 30, 0⟩, ⟨.tr (eL x.2.2), 50, 1⟩]) (fun x => loopM (β := (List I_Page)) (fun s : Int × (List I_Page) => m_S_copyHeap_b1 N p_h s.1 s.2) x.1 x.2 = some o13) (fun x => x.1) (N, ((0 : Int), ([] : List I_Page))) [some 0, some 1, some 2] ⟨rfl, rfl, ⟨⟨_, rfl, rfl, rfl, .mx ⟨.t _, trivial⟩⟩, ⟨_, rfl, rfl, rfl, .mx ⟨.t _, trivial⟩⟩, ⟨_, rfl, rfl, rfl, .tr _⟩, trivial⟩, ⟨.op rfl, .op rfl, .os rfl, .t _, trivial⟩⟩ h_14 ?_
    rintro ⟨f15_, i1, v2⟩ h_17
    obtain ⟨f15, y16, rfl, hh1, kk1⟩ := loopM_some h_17
    replace hh1 : m_S_copyHeap_b1 N p_h i1 v2 = some y16 := hh1
    unfold m_S_copyHeap_b1 at hh1; (iterate 2 refine PC.seq ?_); refine PC.region ?_; refine PL.op rfl (Rd.moveT rfl) ?_; refine PL.op rfl (Rd.fieldO rfl rfl) ?_; refine PL.op rfl (Rd.loadO rfl rfl rfl) ?_; refine PL.op rfl (Rd.lenT rfl) ?_; refine PL.op rfl (Rd.lss rfl rfl) ?_; refine PL.nil ?_; refine thA_n ?_; rcases cond_some hh1 with ⟨h_18, hh1⟩ | ⟨h_18, hh1⟩; rotate_left
    · refine PC.cond_false rfl h_18 ?_; refine PC.exit ?_; (iterate 2 refine thA_e ?_); refine inA_eq rfl ?_; refine thA_n ?_; obtain rfl := some_in hh1; obtain rfl : (v2 : (List I_Page)) = o13 := kk1; exact ⟨v2, hh0, [some 1, some 2], ⟨rfl, rfl, ⟨⟨_, rfl, rfl, rfl, .mx ⟨.t _, trivial⟩⟩, ⟨_, rfl, rfl, rfl, .tr _⟩, trivial⟩, ⟨.op rfl, .os rfl, trivial⟩⟩⟩
    refine PC.cond_true rfl h_18 ?_; refine PC.skip ?_; refine thA_n ?_; refine PC.seq ?_; refine PC.block ?_; obtain ⟨x19, h_20, hh1⟩ := bind_some hh1; obtain ⟨xs21, h_22, hh1⟩ := bind_some hh1; obtain ⟨xs23, h_24, hh1⟩ := bind_some hh1; refine PC.region ?_; refine PL.op rfl (Rd.moveO rfl) ?_; refine PL.ef rfl (Ef.lit0M I_Slot) ?_; refine PL.nm (.os 3 0 0) [some ⟨.mx [sL p_h.pages], 30, 0⟩, some ⟨.mx [.t (.v (.slice none 0 0))], 30, 0⟩, some ⟨.tr (eL v2), 50, 1⟩, some ⟨.tr (eL ([] : List I_Slot)), 70, 2⟩] rfl rfl ?_; refine PL.op rfl (Rd.fieldO rfl rfl) ?_; refine PL.op rfl (Rd.loadO rfl rfl rfl) ?_; refine PL.op rfl (Rd.moveT rfl) ?_; refine PL.op rfl (Rd.ixM rfl rfl h_20) ?_; refine PL.op rfl (Rd.fieldT rfl) ?_; refine PL.op rfl (Rd.elMF (f := 0) rfl h_20 rfl rfl) ?_; refine PL.apM hs rfl rfl rfl rfl (SrcA.eL rfl) rfl rfl rfl rfl h_22 ?_; refine PL.nm (.os 4 0 xs21.length) [some ⟨.mx [sL p_h.pages], 30, 0⟩, some ⟨.mx [.t (.v (.slice none 0 0))], 30, 0⟩, some ⟨.tr (eL v2), 50, 1⟩, none, some ⟨.tr (eL xs21), 70, 2⟩] rfl rfl ?_; refine PL.op rfl (Rd.build rfl rfl rfl rfl) ?_; refine PL.frz hs 4 5 [(21, sL xs21), (22, .agg [sL xs21])] [some ⟨.mx [sL p_h.pages], 30, 0⟩, some ⟨.mx [.t (.v (.slice none 0 0))], 30, 0⟩, some ⟨.tr (eL v2), 50, 1⟩, none, none] rfl rfl ⟨(.own rfl (by decide) rfl rfl), (.aggL ⟨(.own rfl (by decide) rfl rfl), trivial⟩), trivial⟩ ⟨⟨rfl, .inl rfl⟩, ⟨rfl, .inl rfl⟩, ⟨rfl, .inl rfl⟩, trivial⟩ ?_; refine PL.ef rfl (Ef.litM (α := I_Page) [(I_Page.mk xs21)] [_] rfl rfl (by decide) rfl rfl rfl rfl) ?_; refine PL.nm (.os 5 0 1) [some ⟨.mx [sL p_h.pages], 30, 0⟩, some ⟨.mx [.t (.v (.slice none 0 0))], 30, 0⟩, some ⟨.tr (eL v2), 50, 1⟩, none, none, some ⟨.tr (eL [(I_Page.mk xs21)]), 50, 1⟩] rfl rfl ?_; refine PL.apM hs rfl rfl rfl rfl (SrcA.ownE rfl rfl rfl) rfl rfl rfl rfl h_24 ?_; refine PL.nm (.os 6 0 xs23.length) [some ⟨.mx [sL p_h.pages], 30, 0⟩, some ⟨.mx [.t (.v (.slice none 0 0))], 30, 0⟩, none, none, none, some ⟨.tr (eL [(I_Page.mk xs21)]), 50, 1⟩, some ⟨.tr (eL xs23), 50, 1⟩] rfl rfl ?_; refine PL.op rfl (Rd.asnO rfl) ?_; refine PL.nil ?_; refine inA_n ?_; refine thA_n ?_; obtain ⟨n25, h_26, hh1⟩ := bind_some hh1; refine PC.region ?_; refine PL.op rfl (Rd.moveT rfl) ?_; refine PL.op rfl (Rd.addM rfl rfl h_26) ?_; refine PL.op rfl (Rd.asnT rfl) ?_; refine PL.nil ?_; obtain rfl := some_in hh1; refine thA_n ?_; exact ⟨(f15, (n25, xs23)), Nat.lt_succ_self _, kk1, [some 0, some 1, some 6], ⟨rfl, rfl, ⟨⟨_, rfl, rfl, rfl, .mx ⟨.t _, trivial⟩⟩, ⟨_, rfl, rfl, rfl, .mx ⟨.t _, trivial⟩⟩, ⟨_, rfl, rfl, rfl, .tr _⟩, trivial⟩, ⟨.op rfl, .op rfl, .os rfl, .t _, trivial⟩⟩⟩
  clear hh0
  rintro v12 hh0
  replace hh0 : m_S_copyHeap_k1 N v12 = some r := hh0
  unfold m_S_copyHeap_k1 at hh0; refine thA_n ?_; refine PC.seq ?_; refine PC.region ?_; refine PL.op rfl (Rd.moveO rfl) ?_; refine PL.op rfl (Rd.build rfl rfl rfl rfl) ?_; refine PL.store rfl rfl rfl rfl rfl rfl rfl ?_; refine PL.nO [some ⟨.mx [.os 1 0 v12.length], 30, 0⟩, some ⟨.tr (eL v12), 50, 1⟩] rfl ?_; refine PL.nil ?_; refine thA_n ?_; refine PC.ret ?_; obtain rfl := some_in hh0; exact FinA.mk (r := .agg [.os 0 0 v12.length]) (bl := [⟨.tr (eL v12), 50, 1⟩]) [some 1] (.inl rfl) rfl (rl := [.cell 2 30]) (.cellN rfl rfl rfl rfl .nil) rfl rfl rfl (.aggL ⟨.os rfl, trivial⟩) ⟨⟨_, rfl, rfl, rfl, .tr _⟩, trivial⟩ ⟨rfl, rfl⟩
def m_S_insert_k1 (N : Nat) (p_h : I_Heap) (p_data : ByteArray) (r1 : (I_Heap)) : Option (I_Heap × I_Rid × Bool) :=
  (m_S_PutSlot N (I_Page.mk ([] : List I_Slot)) p_data).bind fun r19 =>
  cond r19.2.2
    (cond (decide ((p_h.pages.length : Int) = (6 : Int)))
      (some ((I_Heap.mk ([] : List I_Page)), (I_Rid.mk (0 : Int) (0 : Int)), false))
      ((appM 24 r1.pages [r19.1]).bind fun xs23 =>
      some ((I_Heap.mk xs23), (I_Rid.mk (p_h.pages.length : Int) r19.2.1), true)))
    (some ((I_Heap.mk ([] : List I_Page)), (I_Rid.mk (0 : Int) (0 : Int)), false))
def m_S_insert_b1 (N : Nat) (p_h : I_Heap) (p_data : ByteArray) (r1 : (I_Heap)) (at3 : Int) : Option (Int ⊕ (Unit ⊕ (I_Heap × I_Rid × Bool))) :=
  cond (decide (at3 < (p_h.pages.length : Int)))
    ((ixI p_h.pages at3).bind fun x26 =>
    (m_S_PutSlot N x26 p_data).bind fun r28 =>
    cond r28.2.2
      ((ixI r1.pages at3).bind fun x31 =>
      some (.inr (.inr ((I_Heap.mk (r1.pages.set at3.toNat r28.1)), (I_Rid.mk at3 r28.2.1), true))))
      ((chk (at3 + (1 : Int))).bind fun n33 =>
      some (.inl n33)))
    (some (.inr (.inl ())))
def m_S_insert (N : Nat) (p_h : I_Heap) (p_data : ByteArray) : Option (I_Heap × I_Rid × Bool) :=
  (m_S_copyHeap N p_h).bind fun r1 =>
  (loopM (β := Unit ⊕ (I_Heap × I_Rid × Bool)) (fun s : Int => m_S_insert_b1 N p_h p_data r1 s) N (0 : Int)).bind fun o => match o with
  | .inl e =>
    m_S_insert_k1 N p_h p_data r1 
  | .inr v =>
    some v
theorem w_S_insert (N : Nat) (p_h : I_Heap) (p_data : ByteArray) (r : I_Heap × I_Rid × Bool) (hh0 : m_S_insert N p_h p_data = some r) : FnX Try.prog 32 [] [.agg [sL p_h.pages], sA p_data] (RE (.tup [.agg [.os 0 0 r.1.pages.length], .agg [iA r.2.1.page, iA r.2.1.slot], bA r.2.2]) [⟨.tr (eL r.1.pages), 50, 1⟩]) := by
  unfold m_S_insert at hh0; refine FnX.mk Try.func32 rfl rfl ?_; intro s hs; refine PC.seq ?_; refine PC.region ?_; refine PL.ef rfl (Ef.box rfl rfl rfl) ?_; refine PL.nm (.op 0 0) [some ⟨.mx [sL p_h.pages], 30, 0⟩] rfl rfl ?_; refine PL.ef rfl (Ef.alloc rfl rfl) ?_; refine PL.nm (.op 1 0) [some ⟨.mx [sL p_h.pages], 30, 0⟩, some ⟨.mx [.t (.v (.slice none 0 0))], 30, 0⟩] rfl rfl ?_; refine PL.ef rfl (Ef.alloc rfl rfl) ?_; refine PL.nm (.op 2 0) [some ⟨.mx [sL p_h.pages], 30, 0⟩, some ⟨.mx [.t (.v (.slice none 0 0))], 30, 0⟩, some ⟨.mx [iA (0 : Int), iA (0 : Int)], 34, 0⟩] rfl rfl ?_; refine PL.op rfl (Rd.asnT rfl) ?_; refine PL.nil ?_; refine thA_n ?_; refine PC.seq ?_; obtain ⟨r1, h_2, hh0⟩ := bind_some hh0; refine PC.region ?_; refine PL.op rfl (Rd.loadBox rfl rfl rfl) ?_; refine PL.callM false [] (w_S_copyHeap N p_h r1 h_2) rfl Try.call23 rfl ⟨.aggL ⟨.t _, trivial⟩, trivial⟩ rfl trivial (fun h => by cases h) ?_; refine PL.nm (.agg [.os 3 0 r1.pages.length]) [some ⟨.mx [sL p_h.pages], 30, 0⟩, some ⟨.mx [.t (.v (.slice none 0 0))], 30, 0⟩, some ⟨.mx [iA (0 : Int), iA (0 : Int)], 34, 0⟩, some ⟨.tr (eL r1.pages), 50, 1⟩] rfl rfl ?_; refine PL.ef rfl (Ef.alloc rfl rfl) ?_; refine PL.nm (.op 4 0) [some ⟨.mx [sL p_h.pages], 30, 0⟩, some ⟨.mx [.t (.v (.slice none 0 0))], 30, 0⟩, some ⟨.mx [iA (0 : Int), iA (0 : Int)], 34, 0⟩, some ⟨.tr (eL r1.pages), 50, 1⟩, some ⟨.mx [.t (.v (.slice none 0 0))], 30, 0⟩] rfl rfl ?_; refine PL.store rfl rfl rfl rfl rfl rfl rfl ?_; refine PL.nO [some ⟨.mx [sL p_h.pages], 30, 0⟩, some ⟨.mx [.t (.v (.slice none 0 0))], 30, 0⟩, some ⟨.mx [iA (0 : Int), iA (0 : Int)], 34, 0⟩, some ⟨.tr (eL r1.pages), 50, 1⟩, some ⟨.mx [.os 3 0 r1.pages.length], 30, 0⟩] rfl ?_; refine PL.nil ?_; refine thA_n ?_; (iterate 2 refine PC.seq ?_); refine PC.region ?_; refine PL.op rfl (Rd.asnT rfl) ?_; refine PL.nil ?_; refine thA_n ?_; obtain ⟨o14, h_15, hh0⟩ := bind_some hh0; refine PC.cutE hs (fun x : Unit => [(1, sA p_data), (2, .op 0 0), (4, .op 1 0), (5, .op 2 0), (7, .op 3 0)]) (fun x => [⟨.mx [sL p_h.pages], 30, 0⟩, ⟨.mx [.t (.v (.slice none 0 0))], 30, 0⟩, ⟨.mx [iA (0 : Int), iA (0 : Int)], 34, 0⟩, ⟨.mx [.os 4 0 r1.pages.length], 30, 0⟩, ⟨.tr (eL r1.pages), 50, 1⟩]) (fun x => m_S_insert_k1 N p_h p_data r1  = some r) ?_ ?_
  · refine PC.block ?_; refine PC.loop hs (fun x : Nat × (Int) => [(1, sA p_data), (2, .op 0 0), (4, .op 1 0), (5, .op 2 0), (7, .op 3 0), (8, iA x.2)]) (fun x => [⟨.mx [sL p_h.pages], 30, 0⟩, ⟨.mx [.t (.v (.slice none 0 0))], 30, 0⟩, ⟨.mx [iA (0 : Int), iA (0 : Int)], 34, 0⟩, ⟨.mx [.os 4 0 r1.pages.length], 30, 0⟩, ⟨.tr (eL r1.pages), 50, 1⟩]) (fun x => loopM (β := Unit ⊕ (I_Heap × I_Rid × Bool)) (fun s : Int => m_S_insert_b1 N p_h p_data r1 s) x.1 x.2 = some o14) (fun x => x.1) (N, (0 : Int)) [some 0, some 1, some 2, some 4, some 3] ⟨rfl, rfl, ⟨⟨_, rfl, rfl, rfl, .mx ⟨.t _, trivial⟩⟩, ⟨_, rfl, rfl, rfl, .mx ⟨.t _, trivial⟩⟩, ⟨_, rfl, rfl, rfl, .mx ⟨.t _, .t _, trivial⟩⟩, ⟨_, rfl, rfl, rfl, .mx ⟨.os rfl, trivial⟩⟩, ⟨_, rfl, rfl, rfl, .tr _⟩, trivial⟩, ⟨.t _, .op rfl, .op rfl, .op rfl, .op rfl, .t _, trivial⟩⟩ h_15 ?_
    rintro ⟨f16_, at3⟩ h_18
    obtain ⟨f16, y17, rfl, hh1, kk1⟩ := loopM_some h_18
    replace hh1 : m_S_insert_b1 N p_h p_data r1 at3 = some y17 := hh1
    unfold m_S_insert_b1 at hh1; (iterate 2 refine PC.seq ?_); refine PC.region ?_; refine PL.op rfl (Rd.moveT rfl) ?_; refine PL.op rfl (Rd.fieldO rfl rfl) ?_; refine PL.op rfl (Rd.loadO rfl rfl rfl) ?_; refine PL.op rfl (Rd.lenT rfl) ?_; refine PL.op rfl (Rd.lss rfl rfl) ?_; refine PL.nil ?_; refine thA_n ?_; rcases cond_some hh1 with ⟨h_25, hh1⟩ | ⟨h_25, hh1⟩; rotate_left
    · refine PC.cond_false rfl h_25 ?_; refine PC.exit ?_; (iterate 2 refine thA_e ?_); refine inA_eq rfl ?_; refine thA_n ?_; obtain rfl := some_in hh1; obtain rfl : (.inl () : Unit ⊕ (I_Heap × I_Rid × Bool)) = o14 := kk1; exact ⟨(), hh0, [some 0, some 1, some 2, some 3, some 4], ⟨rfl, rfl, ⟨⟨_, rfl, rfl, rfl, .mx ⟨.t _, trivial⟩⟩, ⟨_, rfl, rfl, rfl, .mx ⟨.t _, trivial⟩⟩, ⟨_, rfl, rfl, rfl, .mx ⟨.t _, .t _, trivial⟩⟩, ⟨_, rfl, rfl, rfl, .mx ⟨.os rfl, trivial⟩⟩, ⟨_, rfl, rfl, rfl, .tr _⟩, trivial⟩, ⟨.t _, .op rfl, .op rfl, .op rfl, .op rfl, trivial⟩⟩⟩
    refine PC.cond_true rfl h_25 ?_; refine PC.skip ?_; refine thA_n ?_; refine PC.seq ?_; refine PC.block ?_; refine PC.seq ?_; obtain ⟨x26, h_27, hh1⟩ := bind_some hh1; obtain ⟨r28, h_29, hh1⟩ := bind_some hh1; refine PC.region ?_; refine PL.op rfl (Rd.fieldO rfl rfl) ?_; refine PL.op rfl (Rd.loadO rfl rfl rfl) ?_; refine PL.op rfl (Rd.moveT rfl) ?_; refine PL.op rfl (Rd.ixM rfl rfl h_27) ?_; refine PL.op rfl (Rd.elMR rfl h_27 rfl rfl) ?_; refine PL.op rfl (Rd.moveT rfl) ?_; refine PL.callM false [] (w_S_PutSlot N x26 p_data r28 h_29) rfl Try.call47 rfl ⟨.aggL ⟨.t _, trivial⟩, .t _, trivial⟩ rfl trivial (fun h => by cases h) ?_; refine PL.nm (.tup [.agg [.os 5 0 r28.1.slots.length], iA r28.2.1, bA r28.2.2]) [some ⟨.mx [sL p_h.pages], 30, 0⟩, some ⟨.mx [.t (.v (.slice none 0 0))], 30, 0⟩, some ⟨.mx [iA (0 : Int), iA (0 : Int)], 34, 0⟩, some ⟨.mx [.os 4 0 r1.pages.length], 30, 0⟩, some ⟨.tr (eL r1.pages), 50, 1⟩, some ⟨.tr (eL r28.1.slots), 70, 2⟩] rfl rfl ?_; refine PL.op rfl (Rd.moveU rfl) ?_; (iterate 3 refine PL.op rfl (Rd.extract rfl rfl) ?_); refine PL.ef rfl (Ef.alloc rfl rfl) ?_; refine PL.nm (.op 6 0) [some ⟨.mx [sL p_h.pages], 30, 0⟩, some ⟨.mx [.t (.v (.slice none 0 0))], 30, 0⟩, some ⟨.mx [iA (0 : Int), iA (0 : Int)], 34, 0⟩, some ⟨.mx [.os 4 0 r1.pages.length], 30, 0⟩, some ⟨.tr (eL r1.pages), 50, 1⟩, some ⟨.tr (eL r28.1.slots), 70, 2⟩, some ⟨.mx [.t (.v (.slice none 0 0))], 50, 0⟩] rfl rfl ?_; refine PL.store rfl rfl rfl rfl rfl rfl rfl ?_; refine PL.nO [some ⟨.mx [sL p_h.pages], 30, 0⟩, some ⟨.mx [.t (.v (.slice none 0 0))], 30, 0⟩, some ⟨.mx [iA (0 : Int), iA (0 : Int)], 34, 0⟩, some ⟨.mx [.os 4 0 r1.pages.length], 30, 0⟩, some ⟨.tr (eL r1.pages), 50, 1⟩, some ⟨.tr (eL r28.1.slots), 70, 2⟩, some ⟨.mx [.os 5 0 r28.1.slots.length], 50, 0⟩] rfl ?_; (iterate 2 refine PL.op rfl (Rd.asnT rfl) ?_); refine PL.nil ?_; refine thA_n ?_; refine PC.seq ?_; refine PC.region ?_; refine PL.op rfl (Rd.moveT rfl) ?_; refine PL.nil ?_; refine thA_n ?_; rcases cond_some hh1 with ⟨h_30, hh1⟩ | ⟨h_30, hh1⟩; rotate_left
    · refine PC.cond_false rfl h_30 ?_; refine PC.skip ?_; refine inA_n ?_; refine thA_n ?_; obtain ⟨n33, h_34, hh1⟩ := bind_some hh1; refine PC.region ?_; refine PL.op rfl (Rd.moveT rfl) ?_; refine PL.op rfl (Rd.addM rfl rfl h_34) ?_; refine PL.op rfl (Rd.asnT rfl) ?_; refine PL.nil ?_; obtain rfl := some_in hh1; refine thA_n ?_; exact ⟨(f16, n33), Nat.lt_succ_self _, kk1, [some 0, some 1, some 2, some 3, some 4], ⟨rfl, rfl, ⟨⟨_, rfl, rfl, rfl, .mx ⟨.t _, trivial⟩⟩, ⟨_, rfl, rfl, rfl, .mx ⟨.t _, trivial⟩⟩, ⟨_, rfl, rfl, rfl, .mx ⟨.t _, .t _, trivial⟩⟩, ⟨_, rfl, rfl, rfl, .mx ⟨.os rfl, trivial⟩⟩, ⟨_, rfl, rfl, rfl, .tr _⟩, trivial⟩, ⟨.t _, .op rfl, .op rfl, .op rfl, .op rfl, .t _, trivial⟩⟩⟩
    refine PC.cond_true rfl h_30 ?_; refine PC.seq ?_; obtain ⟨x31, h_32, hh1⟩ := bind_some hh1; refine PC.region ?_; refine PL.op rfl (Rd.fieldO rfl rfl) ?_; refine PL.op rfl (Rd.loadO rfl rfl rfl) ?_; refine PL.op rfl (Rd.moveT rfl) ?_; refine PL.op rfl (Rd.loadBox rfl rfl rfl) ?_; refine PL.op rfl (Rd.ixOM rfl rfl rfl (ixI_lt h_32)) ?_; refine PL.frz hs 5 7 [(32, .tup [.agg [sL r28.1.slots], iA r28.2.1, bA r28.2.2]), (25, .tup [.agg [sL r28.1.slots], iA r28.2.1, bA r28.2.2]), (33, .agg [sL r28.1.slots]), (40, .agg [sL r28.1.slots])] [some ⟨.mx [sL p_h.pages], 30, 0⟩, some ⟨.mx [.t (.v (.slice none 0 0))], 30, 0⟩, some ⟨.mx [iA (0 : Int), iA (0 : Int)], 34, 0⟩, some ⟨.mx [.os 4 0 r1.pages.length], 30, 0⟩, some ⟨.tr (eL r1.pages), 50, 1⟩, none, some ⟨.mx [sL r28.1.slots], 50, 0⟩] rfl rfl ⟨(.tupL ⟨(.aggL ⟨(.own rfl (by decide) rfl rfl), trivial⟩), (.t _), (.t _), trivial⟩), (.tupL ⟨(.aggL ⟨(.own rfl (by decide) rfl rfl), trivial⟩), (.t _), (.t _), trivial⟩), (.aggL ⟨(.own rfl (by decide) rfl rfl), trivial⟩), (.aggL ⟨(.own rfl (by decide) rfl rfl), trivial⟩), trivial⟩ ⟨⟨rfl, .inl rfl⟩, ⟨rfl, .inl rfl⟩, ⟨rfl, .inl rfl⟩, ⟨rfl, .inl rfl⟩, ⟨rfl, .inl rfl⟩, ⟨rfl, .inr ⟨_, rfl, rfl, rfl, .mx ⟨(.own rfl (by decide) rfl rfl), trivial⟩⟩⟩, trivial⟩ ?_; refine PL.stRM r28.1 rfl rfl rfl rfl rfl h_32 rfl ?_; refine PL.nO [some ⟨.mx [sL p_h.pages], 30, 0⟩, some ⟨.mx [.t (.v (.slice none 0 0))], 30, 0⟩, some ⟨.mx [iA (0 : Int), iA (0 : Int)], 34, 0⟩, some ⟨.mx [.os 4 0 r1.pages.length], 30, 0⟩, some ⟨.tr (eL (r1.pages.set at3.toNat r28.1)), 50, 1⟩, none, some ⟨.mx [sL r28.1.slots], 50, 0⟩] rfl ?_; refine PL.nil ?_; refine thA_n ?_; refine PC.seq ?_; refine PC.region ?_; refine PL.op rfl (Rd.loadBox rfl rfl rfl) ?_; (iterate 2 refine PL.op rfl (Rd.moveT rfl) ?_); refine PL.op rfl (Rd.build rfl rfl rfl rfl) ?_; refine PL.store rfl rfl rfl rfl rfl rfl rfl ?_; refine PL.nO [some ⟨.mx [sL p_h.pages], 30, 0⟩, some ⟨.mx [.os 4 0 r1.pages.length], 30, 0⟩, some ⟨.mx [iA (0 : Int), iA (0 : Int)], 34, 0⟩, some ⟨.mx [.os 4 0 r1.pages.length], 30, 0⟩, some ⟨.tr (eL (r1.pages.set at3.toNat r28.1)), 50, 1⟩, none, some ⟨.mx [sL r28.1.slots], 50, 0⟩] rfl ?_; refine PL.store rfl rfl rfl rfl rfl rfl rfl ?_; refine PL.nO [some ⟨.mx [sL p_h.pages], 30, 0⟩, some ⟨.mx [.os 4 0 r1.pages.length], 30, 0⟩, some ⟨.mx [iA at3, iA r28.2.1], 34, 0⟩, some ⟨.mx [.os 4 0 r1.pages.length], 30, 0⟩, some ⟨.tr (eL (r1.pages.set at3.toNat r28.1)), 50, 1⟩, none, some ⟨.mx [sL r28.1.slots], 50, 0⟩] rfl ?_; refine PL.op rfl (Rd.asnT rfl) ?_; refine PL.nil ?_; refine thA_n ?_; refine PC.ret ?_; refine inA_r ?_; (iterate 2 refine thA_r ?_); refine inA_r ?_; refine thA_r ?_; obtain rfl := some_in hh1; obtain rfl : (.inr ((I_Heap.mk (r1.pages.set at3.toNat r28.1)), (I_Rid.mk at3 r28.2.1), true) : Unit ⊕ (I_Heap × I_Rid × Bool)) = o14 := kk1; refine thA_r ?_; obtain rfl := some_in hh0; exact FinA.mk (r := .tup [.agg [.os 0 0 ((((I_Heap.mk (r1.pages.set at3.toNat r28.1)), (I_Rid.mk at3 r28.2.1), true).1.pages).length)], .agg [iA (((I_Heap.mk (r1.pages.set at3.toNat r28.1)), (I_Rid.mk at3 r28.2.1), true).2.1.page), iA (((I_Heap.mk (r1.pages.set at3.toNat r28.1)), (I_Rid.mk at3 r28.2.1), true).2.1.slot)], bA (((I_Heap.mk (r1.pages.set at3.toNat r28.1)), (I_Rid.mk at3 r28.2.1), true).2.2)]) (bl := [⟨.tr (eL (((I_Heap.mk (r1.pages.set at3.toNat r28.1)), (I_Rid.mk at3 r28.2.1), true).1.pages)), 50, 1⟩]) [some 4] (.inl rfl) rfl (rl := [.cell 4 30, .cell 5 34, .tmp 6]) (.cellN rfl rfl rfl rfl (.cellN rfl rfl rfl rfl (.tmp .nil))) rfl rfl rfl (.tupL ⟨.aggL ⟨.osE rfl (by simp only [List.length_set]), trivial⟩, .aggL ⟨.t _, .t _, trivial⟩, .t _, trivial⟩) ⟨⟨_, rfl, rfl, rfl, .tr _⟩, trivial⟩ ⟨rfl, rfl⟩
  clear hh0
  rintro ⟨⟩ hh0
  replace hh0 : m_S_insert_k1 N p_h p_data r1  = some r := hh0
  unfold m_S_insert_k1 at hh0; refine thA_n ?_; refine PC.seq ?_; obtain ⟨r19, h_20, hh0⟩ := bind_some hh0; refine PC.region ?_; refine PL.op rfl (Rd.build rfl rfl rfl rfl) ?_; refine PL.op rfl (Rd.moveT rfl) ?_; refine PL.callM false [] (w_S_PutSlot N (I_Page.mk ([] : List I_Slot)) p_data r19 h_20) rfl Try.call47 rfl ⟨.aggL ⟨Sb.nilE, trivial⟩, .t _, trivial⟩ rfl trivial (fun h => by cases h) ?_; refine PL.nm (.tup [.agg [.os 5 0 r19.1.slots.length], iA r19.2.1, bA r19.2.2]) [some ⟨.mx [sL p_h.pages], 30, 0⟩, some ⟨.mx [.t (.v (.slice none 0 0))], 30, 0⟩, some ⟨.mx [iA (0 : Int), iA (0 : Int)], 34, 0⟩, some ⟨.mx [.os 4 0 r1.pages.length], 30, 0⟩, some ⟨.tr (eL r1.pages), 50, 1⟩, some ⟨.tr (eL r19.1.slots), 70, 2⟩] rfl rfl ?_; refine PL.op rfl (Rd.moveU rfl) ?_; (iterate 3 refine PL.op rfl (Rd.extract rfl rfl) ?_); refine PL.ef rfl (Ef.alloc rfl rfl) ?_; refine PL.nm (.op 6 0) [some ⟨.mx [sL p_h.pages], 30, 0⟩, some ⟨.mx [.t (.v (.slice none 0 0))], 30, 0⟩, some ⟨.mx [iA (0 : Int), iA (0 : Int)], 34, 0⟩, some ⟨.mx [.os 4 0 r1.pages.length], 30, 0⟩, some ⟨.tr (eL r1.pages), 50, 1⟩, some ⟨.tr (eL r19.1.slots), 70, 2⟩, some ⟨.mx [.t (.v (.slice none 0 0))], 50, 0⟩] rfl rfl ?_; refine PL.store rfl rfl rfl rfl rfl rfl rfl ?_; refine PL.nO [some ⟨.mx [sL p_h.pages], 30, 0⟩, some ⟨.mx [.t (.v (.slice none 0 0))], 30, 0⟩, some ⟨.mx [iA (0 : Int), iA (0 : Int)], 34, 0⟩, some ⟨.mx [.os 4 0 r1.pages.length], 30, 0⟩, some ⟨.tr (eL r1.pages), 50, 1⟩, some ⟨.tr (eL r19.1.slots), 70, 2⟩, some ⟨.mx [.os 5 0 r19.1.slots.length], 50, 0⟩] rfl ?_; (iterate 2 refine PL.op rfl (Rd.asnT rfl) ?_); refine PL.nil ?_; refine thA_n ?_; (iterate 2 refine PC.seq ?_); rcases cond_some hh0 with ⟨h_21, hh0⟩ | ⟨h_21, hh0⟩; rotate_left
  · refine PC.region ?_; refine PL.op rfl (Rd.moveT rfl) ?_; refine PL.op rfl (Rd.unnot rfl) ?_; refine PL.op rfl (Rd.moveT rfl) ?_; (iterate 4 refine PL.guard_off rfl rfl (not_f h_21) ?_); refine PL.op rfl (Rd.pick_t rfl (not_f h_21)) ?_; refine PL.nil ?_; refine thA_n ?_; refine PC.cond_true rfl rfl ?_; refine PC.seq ?_; refine PC.region ?_; (iterate 2 refine PL.op rfl (Rd.build rfl rfl rfl rfl) ?_); (iterate 2 refine PL.store rfl rfl rfl rfl rfl rfl rfl ?_); refine PL.op rfl (Rd.asnT rfl) ?_; refine PL.nil ?_; refine thA_n ?_; refine PC.ret ?_; refine thA_r ?_; obtain rfl := some_in hh0; exact FinA.mk (r := .tup [.agg [.os 0 0 ((((I_Heap.mk ([] : List I_Page)), (I_Rid.mk (0 : Int) (0 : Int)), false).1.pages).length)], .agg [iA (((I_Heap.mk ([] : List I_Page)), (I_Rid.mk (0 : Int) (0 : Int)), false).2.1.page), iA (((I_Heap.mk ([] : List I_Page)), (I_Rid.mk (0 : Int) (0 : Int)), false).2.1.slot)], bA (((I_Heap.mk ([] : List I_Page)), (I_Rid.mk (0 : Int) (0 : Int)), false).2.2)]) (bl := [⟨.tr (eL (((I_Heap.mk ([] : List I_Page)), (I_Rid.mk (0 : Int) (0 : Int)), false).1.pages)), 50, 1⟩]) [none] (.inl rfl) rfl (rl := [.cell 4 30, .cell 5 34, .tmp 6]) (.cellN rfl rfl rfl rfl (.cellN rfl rfl rfl rfl (.tmp .nil))) rfl rfl rfl (.tupL ⟨.aggL ⟨.osn rfl, trivial⟩, .aggL ⟨.t _, .t _, trivial⟩, .t _, trivial⟩) ⟨ow_nil _, trivial⟩ ⟨rfl, rfl⟩
  refine PC.region ?_; refine PL.op rfl (Rd.moveT rfl) ?_; refine PL.op rfl (Rd.unnot rfl) ?_; refine PL.op rfl (Rd.moveT rfl) ?_; refine PL.guard_on rfl (not_t h_21) ?_; refine PL.op rfl (Rd.fieldO rfl rfl) ?_; refine PL.guard_on rfl (not_t h_21) ?_; refine PL.op rfl (Rd.loadO rfl rfl rfl) ?_; refine PL.guard_on rfl (not_t h_21) ?_; refine PL.op rfl (Rd.lenT rfl) ?_; refine PL.guard_on rfl (not_t h_21) ?_; refine PL.op rfl (Rd.eql rfl rfl) ?_; refine PL.op rfl (Rd.pick_f rfl (not_t h_21)) ?_; refine PL.nil ?_; refine thA_n ?_; rcases cond_some hh0 with ⟨h_22, hh0⟩ | ⟨h_22, hh0⟩
  · refine PC.cond_true rfl h_22 ?_; refine PC.seq ?_; refine PC.region ?_; (iterate 2 refine PL.op rfl (Rd.build rfl rfl rfl rfl) ?_); (iterate 2 refine PL.store rfl rfl rfl rfl rfl rfl rfl ?_); refine PL.op rfl (Rd.asnT rfl) ?_; refine PL.nil ?_; refine thA_n ?_; refine PC.ret ?_; refine thA_r ?_; obtain rfl := some_in hh0; exact FinA.mk (r := .tup [.agg [.os 0 0 ((((I_Heap.mk ([] : List I_Page)), (I_Rid.mk (0 : Int) (0 : Int)), false).1.pages).length)], .agg [iA (((I_Heap.mk ([] : List I_Page)), (I_Rid.mk (0 : Int) (0 : Int)), false).2.1.page), iA (((I_Heap.mk ([] : List I_Page)), (I_Rid.mk (0 : Int) (0 : Int)), false).2.1.slot)], bA (((I_Heap.mk ([] : List I_Page)), (I_Rid.mk (0 : Int) (0 : Int)), false).2.2)]) (bl := [⟨.tr (eL (((I_Heap.mk ([] : List I_Page)), (I_Rid.mk (0 : Int) (0 : Int)), false).1.pages)), 50, 1⟩]) [none] (.inl rfl) rfl (rl := [.cell 4 30, .cell 5 34, .tmp 6]) (.cellN rfl rfl rfl rfl (.cellN rfl rfl rfl rfl (.tmp .nil))) rfl rfl rfl (.tupL ⟨.aggL ⟨.osn rfl, trivial⟩, .aggL ⟨.t _, .t _, trivial⟩, .t _, trivial⟩) ⟨ow_nil _, trivial⟩ ⟨rfl, rfl⟩
  refine PC.cond_false rfl h_22 ?_; refine PC.skip ?_; refine thA_n ?_; refine PC.seq ?_; obtain ⟨xs23, h_24, hh0⟩ := bind_some hh0; refine PC.region ?_; refine PL.op rfl (Rd.fieldO rfl rfl) ?_; refine PL.op rfl (Rd.loadO rfl rfl rfl) ?_; refine PL.op rfl (Rd.loadBox rfl rfl rfl) ?_; refine PL.frz hs 5 7 [(49, .tup [.agg [sL r19.1.slots], iA r19.2.1, bA r19.2.2]), (46, .tup [.agg [sL r19.1.slots], iA r19.2.1, bA r19.2.2]), (50, .agg [sL r19.1.slots]), (65, .agg [sL r19.1.slots])] [some ⟨.mx [sL p_h.pages], 30, 0⟩, some ⟨.mx [.t (.v (.slice none 0 0))], 30, 0⟩, some ⟨.mx [iA (0 : Int), iA (0 : Int)], 34, 0⟩, some ⟨.mx [.os 4 0 r1.pages.length], 30, 0⟩, some ⟨.tr (eL r1.pages), 50, 1⟩, none, some ⟨.mx [sL r19.1.slots], 50, 0⟩] rfl rfl ⟨(.tupL ⟨(.aggL ⟨(.own rfl (by decide) rfl rfl), trivial⟩), (.t _), (.t _), trivial⟩), (.tupL ⟨(.aggL ⟨(.own rfl (by decide) rfl rfl), trivial⟩), (.t _), (.t _), trivial⟩), (.aggL ⟨(.own rfl (by decide) rfl rfl), trivial⟩), (.aggL ⟨(.own rfl (by decide) rfl rfl), trivial⟩), trivial⟩ ⟨⟨rfl, .inl rfl⟩, ⟨rfl, .inl rfl⟩, ⟨rfl, .inl rfl⟩, ⟨rfl, .inl rfl⟩, ⟨rfl, .inl rfl⟩, ⟨rfl, .inr ⟨_, rfl, rfl, rfl, .mx ⟨(.own rfl (by decide) rfl rfl), trivial⟩⟩⟩, trivial⟩ ?_; refine PL.ef rfl (Ef.litM (α := I_Page) [r19.1] [_] rfl rfl (by decide) rfl rfl rfl rfl) ?_; refine PL.nm (.os 7 0 1) [some ⟨.mx [sL p_h.pages], 30, 0⟩, some ⟨.mx [.t (.v (.slice none 0 0))], 30, 0⟩, some ⟨.mx [iA (0 : Int), iA (0 : Int)], 34, 0⟩, some ⟨.mx [.os 4 0 r1.pages.length], 30, 0⟩, some ⟨.tr (eL r1.pages), 50, 1⟩, none, some ⟨.mx [sL r19.1.slots], 50, 0⟩, some ⟨.tr (eL [r19.1]), 50, 1⟩] rfl rfl ?_; refine PL.apM hs rfl rfl rfl rfl (SrcA.ownE rfl rfl rfl) rfl rfl rfl rfl h_24 ?_; refine PL.nm (.os 8 0 xs23.length) [some ⟨.mx [sL p_h.pages], 30, 0⟩, some ⟨.mx [.t (.v (.slice none 0 0))], 30, 0⟩, some ⟨.mx [iA (0 : Int), iA (0 : Int)], 34, 0⟩, some ⟨.mx [.os 4 0 r1.pages.length], 30, 0⟩, none, none, some ⟨.mx [sL r19.1.slots], 50, 0⟩, some ⟨.tr (eL [r19.1]), 50, 1⟩, some ⟨.tr (eL xs23), 50, 1⟩] rfl rfl ?_; refine PL.op rfl (Rd.asnO rfl) ?_; refine PL.nil ?_; refine thA_n ?_; refine PC.seq ?_; refine PC.any (id := 13) 10 (.seg [0, 1, 2, 3, 4, 5, 6, 7, 8, 9] .done) [1, 2] rfl (by kernel_rfl) rfl ?_; refine PT.seg ?_; refine PR.op rfl (Rd.moveO rfl) ?_; refine PR.op rfl (Rd.build rfl rfl rfl rfl) ?_; refine PR.op rfl (Rd.fieldO rfl rfl) ?_; refine PR.op rfl (Rd.loadO rfl rfl rfl) ?_; refine PR.op rfl (Rd.lenT rfl) ?_; refine PR.op rfl (Rd.moveT rfl) ?_; refine PR.op rfl (Rd.build rfl rfl rfl rfl) ?_; refine PR.store rfl rfl rfl rfl rfl rfl rfl rfl ?_; refine PR.nO [some ⟨.mx [sL p_h.pages], 30, 0⟩, some ⟨.mx [.os 8 0 xs23.length], 30, 0⟩, some ⟨.mx [iA (0 : Int), iA (0 : Int)], 34, 0⟩, some ⟨.mx [.os 4 0 r1.pages.length], 30, 0⟩, none, none, some ⟨.mx [sL r19.1.slots], 50, 0⟩, some ⟨.tr (eL [r19.1]), 50, 1⟩, some ⟨.tr (eL xs23), 50, 1⟩] rfl ?_; refine PR.store rfl rfl rfl rfl rfl rfl rfl rfl ?_; refine PR.nO [some ⟨.mx [sL p_h.pages], 30, 0⟩, some ⟨.mx [.os 8 0 xs23.length], 30, 0⟩, some ⟨.mx [iA (p_h.pages.length : Int), iA r19.2.1], 34, 0⟩, some ⟨.mx [.os 4 0 r1.pages.length], 30, 0⟩, none, none, some ⟨.mx [sL r19.1.slots], 50, 0⟩, some ⟨.tr (eL [r19.1]), 50, 1⟩, some ⟨.tr (eL xs23), 50, 1⟩] rfl ?_; refine PR.op rfl (Rd.asnT rfl) ?_; refine PR.nil ?_; refine PT.done ?_; refine PL.nil ?_; refine thA_n ?_; refine PC.ret ?_; obtain rfl := some_in hh0; exact FinA.mk (r := .tup [.agg [.os 0 0 ((((I_Heap.mk xs23), (I_Rid.mk (p_h.pages.length : Int) r19.2.1), true).1.pages).length)], .agg [iA (((I_Heap.mk xs23), (I_Rid.mk (p_h.pages.length : Int) r19.2.1), true).2.1.page), iA (((I_Heap.mk xs23), (I_Rid.mk (p_h.pages.length : Int) r19.2.1), true).2.1.slot)], bA (((I_Heap.mk xs23), (I_Rid.mk (p_h.pages.length : Int) r19.2.1), true).2.2)]) (bl := [⟨.tr (eL (((I_Heap.mk xs23), (I_Rid.mk (p_h.pages.length : Int) r19.2.1), true).1.pages)), 50, 1⟩]) [some 8] (.inl rfl) rfl (rl := [.cell 4 30, .cell 5 34, .tmp 6]) (.cellN rfl rfl rfl rfl (.cellN rfl rfl rfl rfl (.tmp .nil))) rfl rfl rfl (.tupL ⟨.aggL ⟨.os rfl, trivial⟩, .aggL ⟨.t _, .t _, trivial⟩, .t _, trivial⟩) ⟨⟨_, rfl, rfl, rfl, .tr _⟩, trivial⟩ ⟨rfl, rfl⟩
def m_S_HeapInsert (N : Nat) (p_h : I_Heap) (p_data : ByteArray) : Option (I_Heap × I_Rid × Bool) :=
  (m_S_validHeap N p_h).bind fun r1 =>
  cond r1
    ((m_S_insert N p_h p_data).bind fun r4 =>
    some (r4.1, r4.2.1, r4.2.2))
    (some ((I_Heap.mk ([] : List I_Page)), (I_Rid.mk (0 : Int) (0 : Int)), false))
def m_S_HeapDelete (N : Nat) (p_h : I_Heap) (p_r : I_Rid) : Option (I_Heap × Bool) :=
  (m_S_validHeap N p_h).bind fun r1 =>
  cond r1
    ((chk ((p_h.pages.length : Int) - (1 : Int))).bind fun n4 =>
    (m_S_inRange N p_r.page (0 : Int) n4).bind fun r6 =>
    cond r6
      ((ixI p_h.pages p_r.page).bind fun x9 =>
      (m_S_ClearSlot N x9 p_r.slot).bind fun r11 =>
      cond r11.2
        ((m_S_copyHeap N p_h).bind fun r14 =>
        (ixI r14.pages p_r.page).bind fun x16 =>
        some ((I_Heap.mk (r14.pages.set p_r.page.toNat r11.1)), true))
        (some ((I_Heap.mk ([] : List I_Page)), false)))
      (some ((I_Heap.mk ([] : List I_Page)), false)))
    (some ((I_Heap.mk ([] : List I_Page)), false))
theorem w_S_HeapDelete (N : Nat) (p_h : I_Heap) (p_r : I_Rid) (r : I_Heap × Bool) (hh0 : m_S_HeapDelete N p_h p_r = some r) : FnX Try.prog 7 [] [.agg [sL p_h.pages], .agg [iA p_r.page, iA p_r.slot]] (RE (.tup [.agg [.os 0 0 r.1.pages.length], bA r.2]) [⟨.tr (eL r.1.pages), 50, 1⟩]) := by
  unfold m_S_HeapDelete at hh0; refine FnX.mk Try.func7 rfl rfl ?_; intro s hs; refine PC.seq ?_; refine PC.region ?_; refine PL.ef rfl (Ef.box rfl rfl rfl) ?_; refine PL.nm (.op 0 0) [some ⟨.mx [sL p_h.pages], 30, 0⟩] rfl rfl ?_; refine PL.ef rfl (Ef.box rfl rfl rfl) ?_; refine PL.nm (.op 1 0) [some ⟨.mx [sL p_h.pages], 30, 0⟩, some ⟨.mx [iA p_r.page, iA p_r.slot], 34, 0⟩] rfl rfl ?_; refine PL.ef rfl (Ef.alloc rfl rfl) ?_; refine PL.nm (.op 2 0) [some ⟨.mx [sL p_h.pages], 30, 0⟩, some ⟨.mx [iA p_r.page, iA p_r.slot], 34, 0⟩, some ⟨.mx [.t (.v (.slice none 0 0))], 30, 0⟩] rfl rfl ?_; refine PL.op rfl (Rd.asnT rfl) ?_; refine PL.nil ?_; refine thA_n ?_; (iterate 2 refine PC.seq ?_); obtain ⟨r1, h_2, hh0⟩ := bind_some hh0; rcases cond_some hh0 with ⟨h_3, hh0⟩ | ⟨h_3, hh0⟩; rotate_left
  · refine PC.region ?_; refine PL.op rfl (Rd.loadBox rfl rfl rfl) ?_; refine PL.callM false [] (w_S_validHeap N p_h r1 h_2) rfl Try.call20 rfl ⟨.aggL ⟨.t _, trivial⟩, trivial⟩ rfl trivial (fun h => by cases h) ?_; refine PL.op rfl (Rd.unnot rfl) ?_; refine PL.op rfl (Rd.moveT rfl) ?_; (iterate 8 refine PL.guard_off rfl rfl (not_f h_3) ?_); refine PL.op rfl (Rd.pick_t rfl (not_f h_3)) ?_; refine PL.nil ?_; refine thA_n ?_; refine PC.cond_true rfl rfl ?_; refine PC.seq ?_; refine PC.region ?_; refine PL.op rfl (Rd.build rfl rfl rfl rfl) ?_; refine PL.store rfl rfl rfl rfl rfl rfl rfl ?_; refine PL.op rfl (Rd.asnT rfl) ?_; refine PL.nil ?_; refine thA_n ?_; refine PC.ret ?_; refine thA_r ?_; obtain rfl := some_in hh0; exact FinA.mk (r := .tup [.agg [.os 0 0 ((((I_Heap.mk ([] : List I_Page)), false).1.pages).length)], bA (((I_Heap.mk ([] : List I_Page)), false).2)]) (bl := [⟨.tr (eL (((I_Heap.mk ([] : List I_Page)), false).1.pages)), 50, 1⟩]) [none] (.inl rfl) rfl (rl := [.cell 4 30, .tmp 5]) (.cellN rfl rfl rfl rfl (.tmp .nil)) rfl rfl rfl (.tupL ⟨.aggL ⟨.osn rfl, trivial⟩, .t _, trivial⟩) ⟨ow_nil _, trivial⟩ ⟨rfl, rfl⟩
  obtain ⟨n4, h_5, hh0⟩ := bind_some hh0; obtain ⟨r6, h_7, hh0⟩ := bind_some hh0; refine PC.region ?_; refine PL.op rfl (Rd.loadBox rfl rfl rfl) ?_; refine PL.callM false [] (w_S_validHeap N p_h r1 h_2) rfl Try.call20 rfl ⟨.aggL ⟨.t _, trivial⟩, trivial⟩ rfl trivial (fun h => by cases h) ?_; refine PL.op rfl (Rd.unnot rfl) ?_; refine PL.op rfl (Rd.moveT rfl) ?_; refine PL.guard_on rfl (not_t h_3) ?_; refine PL.op rfl (Rd.fieldO rfl rfl) ?_; refine PL.guard_on rfl (not_t h_3) ?_; refine PL.op rfl (Rd.loadO rfl rfl rfl) ?_; refine PL.guard_on rfl (not_t h_3) ?_; refine PL.op rfl (Rd.fieldO rfl rfl) ?_; refine PL.guard_on rfl (not_t h_3) ?_; refine PL.op rfl (Rd.loadO rfl rfl rfl) ?_; refine PL.guard_on rfl (not_t h_3) ?_; refine PL.op rfl (Rd.lenT rfl) ?_; refine PL.guard_on rfl (not_t h_3) ?_; refine PL.op rfl (Rd.subM rfl rfl h_5) ?_; refine PL.guard_on rfl (not_t h_3) ?_; refine PL.callM false [] (w_S_inRange N p_r.page (0 : Int) n4 r6 h_7) rfl Try.call21 rfl ⟨.t _, .t _, .t _, trivial⟩ rfl trivial (fun h => by cases h) ?_; refine PL.guard_on rfl (not_t h_3) ?_; refine PL.op rfl (Rd.unnot rfl) ?_; refine PL.op rfl (Rd.pick_f rfl (not_t h_3)) ?_; refine PL.nil ?_; refine thA_n ?_; rcases cond_some hh0 with ⟨h_8, hh0⟩ | ⟨h_8, hh0⟩; rotate_left
  · refine PC.cond_true rfl (not_f h_8) ?_; refine PC.seq ?_; refine PC.region ?_; refine PL.op rfl (Rd.build rfl rfl rfl rfl) ?_; refine PL.store rfl rfl rfl rfl rfl rfl rfl ?_; refine PL.op rfl (Rd.asnT rfl) ?_; refine PL.nil ?_; refine thA_n ?_; refine PC.ret ?_; refine thA_r ?_; obtain rfl := some_in hh0; exact FinA.mk (r := .tup [.agg [.os 0 0 ((((I_Heap.mk ([] : List I_Page)), false).1.pages).length)], bA (((I_Heap.mk ([] : List I_Page)), false).2)]) (bl := [⟨.tr (eL (((I_Heap.mk ([] : List I_Page)), false).1.pages)), 50, 1⟩]) [none] (.inl rfl) rfl (rl := [.cell 4 30, .tmp 5]) (.cellN rfl rfl rfl rfl (.tmp .nil)) rfl rfl rfl (.tupL ⟨.aggL ⟨.osn rfl, trivial⟩, .t _, trivial⟩) ⟨ow_nil _, trivial⟩ ⟨rfl, rfl⟩
  refine PC.cond_false rfl (not_t h_8) ?_; refine PC.skip ?_; refine thA_n ?_; obtain ⟨x9, h_10, hh0⟩ := bind_some hh0; obtain ⟨r11, h_12, hh0⟩ := bind_some hh0; refine PC.cut hs (fun _ : Unit => [(2, .op 0 0), (3, .op 1 0), (4, .op 2 0), (6, .op 3 0), (7, bA r11.2)]) (fun _ => [⟨.mx [sL p_h.pages], 30, 0⟩, ⟨.mx [iA p_r.page, iA p_r.slot], 34, 0⟩, ⟨.mx [.t (.v (.slice none 0 0))], 30, 0⟩, ⟨.mx [.os 4 0 r11.1.slots.length], 50, 0⟩, ⟨.tr (eL r11.1.slots), 70, 2⟩]) (fun _ => True) ?_ ?_
  · refine PC.any (id := 3) 15 (.seg [0, 1, 2, 3, 4, 5, 6, 7] (.fork (.seg [8, 9, 10, 11, 12, 13, 14] .done) (.seg [12, 8, 9, 10, 11, 13, 14] .done))) [] rfl (by kernel_rfl) rfl ?_; refine PT.seg ?_; refine PR.op rfl (Rd.fieldO rfl rfl) ?_; refine PR.op rfl (Rd.loadO rfl rfl rfl) ?_; refine PR.op rfl (Rd.fieldO rfl rfl) ?_; refine PR.op rfl (Rd.loadO rfl rfl rfl) ?_; refine PR.op rfl (Rd.ixM rfl rfl h_10) ?_; refine PR.op rfl (Rd.elMR rfl h_10 rfl rfl) ?_; refine PR.op rfl (Rd.fieldO rfl rfl) ?_; refine PR.op rfl (Rd.loadO rfl rfl rfl) ?_; refine PR.nil ?_; refine PT.fork ?_ ?_
    · refine PT.seg ?_; refine PR.callM false [] (w_S_ClearSlot N x9 p_r.slot r11 h_12) rfl Try.call22 rfl ⟨.aggL ⟨.t _, trivial⟩, .t _, trivial⟩ rfl trivial (fun h => by cases h) rfl ?_; refine PR.nm (.tup [.agg [.os 3 0 r11.1.slots.length], bA r11.2]) [some ⟨.mx [sL p_h.pages], 30, 0⟩, some ⟨.mx [iA p_r.page, iA p_r.slot], 34, 0⟩, some ⟨.mx [.t (.v (.slice none 0 0))], 30, 0⟩, some ⟨.tr (eL r11.1.slots), 70, 2⟩] rfl rfl ?_; refine PR.op rfl (Rd.moveU rfl) ?_; (iterate 2 refine PR.op rfl (Rd.extract rfl rfl) ?_); refine PR.efX rfl rfl (Ef.alloc rfl rfl) ?_; refine PR.nm (.op 4 0) [some ⟨.mx [sL p_h.pages], 30, 0⟩, some ⟨.mx [iA p_r.page, iA p_r.slot], 34, 0⟩, some ⟨.mx [.t (.v (.slice none 0 0))], 30, 0⟩, some ⟨.tr (eL r11.1.slots), 70, 2⟩, some ⟨.mx [.t (.v (.slice none 0 0))], 50, 0⟩] rfl rfl ?_; refine PR.store rfl rfl rfl rfl rfl rfl rfl rfl ?_; refine PR.nO [some ⟨.mx [sL p_h.pages], 30, 0⟩, some ⟨.mx [iA p_r.page, iA p_r.slot], 34, 0⟩, some ⟨.mx [.t (.v (.slice none 0 0))], 30, 0⟩, some ⟨.tr (eL r11.1.slots), 70, 2⟩, some ⟨.mx [.os 3 0 r11.1.slots.length], 50, 0⟩] rfl ?_; refine PR.op rfl (Rd.asnT rfl) ?_; refine PR.nil ?_; refine PT.done ?_; refine PL.nil ?_; refine thA_n ?_; exact ⟨(), trivial, [some 0, some 1, some 2, some 4, some 3], ⟨rfl, rfl, ⟨⟨_, rfl, rfl, rfl, .mx ⟨.t _, trivial⟩⟩, ⟨_, rfl, rfl, rfl, .mx ⟨.t _, .t _, trivial⟩⟩, ⟨_, rfl, rfl, rfl, .mx ⟨.t _, trivial⟩⟩, ⟨_, rfl, rfl, rfl, .mx ⟨.os rfl, trivial⟩⟩, ⟨_, rfl, rfl, rfl, .tr _⟩, trivial⟩, ⟨.op rfl, .op rfl, .op rfl, .op rfl, .t _, trivial⟩⟩⟩
    refine PT.seg ?_; refine PR.efX rfl rfl (Ef.alloc rfl rfl) ?_; refine PR.nm (.op 3 0) [some ⟨.mx [sL p_h.pages], 30, 0⟩, some ⟨.mx [iA p_r.page, iA p_r.slot], 34, 0⟩, some ⟨.mx [.t (.v (.slice none 0 0))], 30, 0⟩, some ⟨.mx [.t (.v (.slice none 0 0))], 50, 0⟩] rfl rfl ?_; refine PR.callM false [] (w_S_ClearSlot N x9 p_r.slot r11 h_12) rfl Try.call22 rfl ⟨.aggL ⟨.t _, trivial⟩, .t _, trivial⟩ rfl trivial (fun h => by cases h) rfl ?_; refine PR.nm (.tup [.agg [.os 4 0 r11.1.slots.length], bA r11.2]) [some ⟨.mx [sL p_h.pages], 30, 0⟩, some ⟨.mx [iA p_r.page, iA p_r.slot], 34, 0⟩, some ⟨.mx [.t (.v (.slice none 0 0))], 30, 0⟩, some ⟨.mx [.t (.v (.slice none 0 0))], 50, 0⟩, some ⟨.tr (eL r11.1.slots), 70, 2⟩] rfl rfl ?_; refine PR.op rfl (Rd.moveU rfl) ?_; (iterate 2 refine PR.op rfl (Rd.extract rfl rfl) ?_); refine PR.store rfl rfl rfl rfl rfl rfl rfl rfl ?_; refine PR.nO [some ⟨.mx [sL p_h.pages], 30, 0⟩, some ⟨.mx [iA p_r.page, iA p_r.slot], 34, 0⟩, some ⟨.mx [.t (.v (.slice none 0 0))], 30, 0⟩, some ⟨.mx [.os 4 0 r11.1.slots.length], 50, 0⟩, some ⟨.tr (eL r11.1.slots), 70, 2⟩] rfl ?_; refine PR.op rfl (Rd.asnT rfl) ?_; refine PR.nil ?_; refine PT.done ?_; refine PL.nil ?_; refine thA_n ?_; exact ⟨(), trivial, [some 0, some 1, some 2, some 3, some 4], ⟨rfl, rfl, ⟨⟨_, rfl, rfl, rfl, .mx ⟨.t _, trivial⟩⟩, ⟨_, rfl, rfl, rfl, .mx ⟨.t _, .t _, trivial⟩⟩, ⟨_, rfl, rfl, rfl, .mx ⟨.t _, trivial⟩⟩, ⟨_, rfl, rfl, rfl, .mx ⟨.os rfl, trivial⟩⟩, ⟨_, rfl, rfl, rfl, .tr _⟩, trivial⟩, ⟨.op rfl, .op rfl, .op rfl, .op rfl, .t _, trivial⟩⟩⟩
  rintro ⟨⟩ -
  (iterate 2 refine PC.seq ?_); refine PC.region ?_; refine PL.op rfl (Rd.moveT rfl) ?_; refine PL.op rfl (Rd.unnot rfl) ?_; refine PL.nil ?_; refine thA_n ?_; rcases cond_some hh0 with ⟨h_13, hh0⟩ | ⟨h_13, hh0⟩; rotate_left
  · refine PC.cond_true rfl (not_f h_13) ?_; refine PC.seq ?_; refine PC.region ?_; refine PL.op rfl (Rd.build rfl rfl rfl rfl) ?_; refine PL.store rfl rfl rfl rfl rfl rfl rfl ?_; refine PL.op rfl (Rd.asnT rfl) ?_; refine PL.nil ?_; refine thA_n ?_; refine PC.ret ?_; refine thA_r ?_; obtain rfl := some_in hh0; exact FinA.mk (r := .tup [.agg [.os 0 0 ((((I_Heap.mk ([] : List I_Page)), false).1.pages).length)], bA (((I_Heap.mk ([] : List I_Page)), false).2)]) (bl := [⟨.tr (eL (((I_Heap.mk ([] : List I_Page)), false).1.pages)), 50, 1⟩]) [none] (.inl rfl) rfl (rl := [.cell 4 30, .tmp 5]) (.cellN rfl rfl rfl rfl (.tmp .nil)) rfl rfl rfl (.tupL ⟨.aggL ⟨.osn rfl, trivial⟩, .t _, trivial⟩) ⟨ow_nil _, trivial⟩ ⟨rfl, rfl⟩
  refine PC.cond_false rfl (not_t h_13) ?_; refine PC.skip ?_; refine thA_n ?_; refine PC.seq ?_; obtain ⟨r14, h_15, hh0⟩ := bind_some hh0; refine PC.region ?_; refine PL.op rfl (Rd.loadBox rfl rfl rfl) ?_; refine PL.callM false [] (w_S_copyHeap N p_h r14 h_15) rfl Try.call23 rfl ⟨.aggL ⟨.t _, trivial⟩, trivial⟩ rfl trivial (fun h => by cases h) ?_; refine PL.nm (.agg [.os 5 0 r14.pages.length]) [some ⟨.mx [sL p_h.pages], 30, 0⟩, some ⟨.mx [iA p_r.page, iA p_r.slot], 34, 0⟩, some ⟨.mx [.t (.v (.slice none 0 0))], 30, 0⟩, some ⟨.mx [.os 4 0 r11.1.slots.length], 50, 0⟩, some ⟨.tr (eL r11.1.slots), 70, 2⟩, some ⟨.tr (eL r14.pages), 50, 1⟩] rfl rfl ?_; refine PL.ef rfl (Ef.alloc rfl rfl) ?_; refine PL.nm (.op 6 0) [some ⟨.mx [sL p_h.pages], 30, 0⟩, some ⟨.mx [iA p_r.page, iA p_r.slot], 34, 0⟩, some ⟨.mx [.t (.v (.slice none 0 0))], 30, 0⟩, some ⟨.mx [.os 4 0 r11.1.slots.length], 50, 0⟩, some ⟨.tr (eL r11.1.slots), 70, 2⟩, some ⟨.tr (eL r14.pages), 50, 1⟩, some ⟨.mx [.t (.v (.slice none 0 0))], 30, 0⟩] rfl rfl ?_; refine PL.store rfl rfl rfl rfl rfl rfl rfl ?_; refine PL.nO [some ⟨.mx [sL p_h.pages], 30, 0⟩, some ⟨.mx [iA p_r.page, iA p_r.slot], 34, 0⟩, some ⟨.mx [.t (.v (.slice none 0 0))], 30, 0⟩, some ⟨.mx [.os 4 0 r11.1.slots.length], 50, 0⟩, some ⟨.tr (eL r11.1.slots), 70, 2⟩, some ⟨.tr (eL r14.pages), 50, 1⟩, some ⟨.mx [.os 5 0 r14.pages.length], 30, 0⟩] rfl ?_; refine PL.nil ?_; refine thA_n ?_; refine PC.seq ?_; obtain ⟨x16, h_17, hh0⟩ := bind_some hh0; refine PC.region ?_; refine PL.op rfl (Rd.fieldO rfl rfl) ?_; refine PL.op rfl (Rd.loadO rfl rfl rfl) ?_; refine PL.op rfl (Rd.fieldO rfl rfl) ?_; refine PL.op rfl (Rd.loadO rfl rfl rfl) ?_; refine PL.op rfl (Rd.loadBox rfl rfl rfl) ?_; refine PL.op rfl (Rd.ixOM rfl rfl rfl (ixI_lt h_17)) ?_; refine PL.frz hs 4 7 [(44, .agg [sL r11.1.slots])] [some ⟨.mx [sL p_h.pages], 30, 0⟩, some ⟨.mx [iA p_r.page, iA p_r.slot], 34, 0⟩, some ⟨.mx [.t (.v (.slice none 0 0))], 30, 0⟩, some ⟨.mx [sL r11.1.slots], 50, 0⟩, none, some ⟨.tr (eL r14.pages), 50, 1⟩, some ⟨.mx [.os 5 0 r14.pages.length], 30, 0⟩] rfl rfl ⟨(.aggL ⟨(.own rfl (by decide) rfl rfl), trivial⟩), trivial⟩ ⟨⟨rfl, .inl rfl⟩, ⟨rfl, .inl rfl⟩, ⟨rfl, .inl rfl⟩, ⟨rfl, .inr ⟨_, rfl, rfl, rfl, .mx ⟨(.own rfl (by decide) rfl rfl), trivial⟩⟩⟩, ⟨rfl, .inl rfl⟩, ⟨rfl, .inl rfl⟩, trivial⟩ ?_; refine PL.stRM r11.1 rfl rfl rfl rfl rfl h_17 rfl ?_; refine PL.nO [some ⟨.mx [sL p_h.pages], 30, 0⟩, some ⟨.mx [iA p_r.page, iA p_r.slot], 34, 0⟩, some ⟨.mx [.t (.v (.slice none 0 0))], 30, 0⟩, some ⟨.mx [sL r11.1.slots], 50, 0⟩, none, some ⟨.tr (eL (r14.pages.set p_r.page.toNat r11.1)), 50, 1⟩, some ⟨.mx [.os 5 0 r14.pages.length], 30, 0⟩] rfl ?_; refine PL.nil ?_; refine thA_n ?_; refine PC.seq ?_; refine PC.region ?_; refine PL.op rfl (Rd.loadBox rfl rfl rfl) ?_; refine PL.store rfl rfl rfl rfl rfl rfl rfl ?_; refine PL.nO [some ⟨.mx [sL p_h.pages], 30, 0⟩, some ⟨.mx [iA p_r.page, iA p_r.slot], 34, 0⟩, some ⟨.mx [.os 5 0 r14.pages.length], 30, 0⟩, some ⟨.mx [sL r11.1.slots], 50, 0⟩, none, some ⟨.tr (eL (r14.pages.set p_r.page.toNat r11.1)), 50, 1⟩, some ⟨.mx [.os 5 0 r14.pages.length], 30, 0⟩] rfl ?_; refine PL.op rfl (Rd.asnT rfl) ?_; refine PL.nil ?_; refine thA_n ?_; refine PC.ret ?_; obtain rfl := some_in hh0; exact FinA.mk (r := .tup [.agg [.os 0 0 ((((I_Heap.mk (r14.pages.set p_r.page.toNat r11.1)), true).1.pages).length)], bA (((I_Heap.mk (r14.pages.set p_r.page.toNat r11.1)), true).2)]) (bl := [⟨.tr (eL (((I_Heap.mk (r14.pages.set p_r.page.toNat r11.1)), true).1.pages)), 50, 1⟩]) [some 5] (.inl rfl) rfl (rl := [.cell 4 30, .tmp 5]) (.cellN rfl rfl rfl rfl (.tmp .nil)) rfl rfl rfl (.tupL ⟨.aggL ⟨.osE rfl (by simp only [List.length_set]), trivial⟩, .t _, trivial⟩) ⟨⟨_, rfl, rfl, rfl, .tr _⟩, trivial⟩ ⟨rfl, rfl⟩
def m_S_HeapUpdate (N : Nat) (p_h : I_Heap) (p_r : I_Rid) (p_data : ByteArray) : Option (I_Heap × I_Rid × Bool) :=
  (m_S_HeapDelete N p_h p_r).bind fun r1 =>
  cond r1.2
    ((ixI p_h.pages p_r.page).bind fun x4 =>
    (m_S_SetSlot N x4 p_r.slot p_data).bind fun r6 =>
    cond r6.2
      ((m_S_copyHeap N p_h).bind fun r9 =>
      (ixI r9.pages p_r.page).bind fun x11 =>
      some ((I_Heap.mk (r9.pages.set p_r.page.toNat r6.1)), p_r, true))
      ((m_S_insert N r1.1 p_data).bind fun r13 =>
      some (r13.1, r13.2.1, r13.2.2)))
    (some ((I_Heap.mk ([] : List I_Page)), (I_Rid.mk (0 : Int) (0 : Int)), false))
theorem w_S_HeapUpdate (N : Nat) (p_h : I_Heap) (p_r : I_Rid) (p_data : ByteArray) (r : I_Heap × I_Rid × Bool) (hh0 : m_S_HeapUpdate N p_h p_r p_data = some r) : FnX Try.prog 17 [] [.agg [sL p_h.pages], .agg [iA p_r.page, iA p_r.slot], sA p_data] (RE (.tup [.agg [.os 0 0 r.1.pages.length], .agg [iA r.2.1.page, iA r.2.1.slot], bA r.2.2]) [⟨.tr (eL r.1.pages), 50, 1⟩]) := by
  unfold m_S_HeapUpdate at hh0; refine FnX.mk Try.func17 rfl rfl ?_; intro s hs; refine PC.seq ?_; refine PC.region ?_; refine PL.ef rfl (Ef.box rfl rfl rfl) ?_; refine PL.nm (.op 0 0) [some ⟨.mx [sL p_h.pages], 30, 0⟩] rfl rfl ?_; refine PL.ef rfl (Ef.box rfl rfl rfl) ?_; refine PL.nm (.op 1 0) [some ⟨.mx [sL p_h.pages], 30, 0⟩, some ⟨.mx [iA p_r.page, iA p_r.slot], 34, 0⟩] rfl rfl ?_; refine PL.ef rfl (Ef.alloc rfl rfl) ?_; refine PL.nm (.op 2 0) [some ⟨.mx [sL p_h.pages], 30, 0⟩, some ⟨.mx [iA p_r.page, iA p_r.slot], 34, 0⟩, some ⟨.mx [.t (.v (.slice none 0 0))], 30, 0⟩] rfl rfl ?_; refine PL.ef rfl (Ef.alloc rfl rfl) ?_; refine PL.nm (.op 3 0) [some ⟨.mx [sL p_h.pages], 30, 0⟩, some ⟨.mx [iA p_r.page, iA p_r.slot], 34, 0⟩, some ⟨.mx [.t (.v (.slice none 0 0))], 30, 0⟩, some ⟨.mx [iA (0 : Int), iA (0 : Int)], 34, 0⟩] rfl rfl ?_; refine PL.op rfl (Rd.asnT rfl) ?_; refine PL.nil ?_; refine thA_n ?_; refine PC.seq ?_; obtain ⟨r1, h_2, hh0⟩ := bind_some hh0; refine PC.region ?_; (iterate 2 refine PL.op rfl (Rd.loadBox rfl rfl rfl) ?_); refine PL.callM false [] (w_S_HeapDelete N p_h p_r r1 h_2) rfl Try.call7 rfl ⟨.aggL ⟨.t _, trivial⟩, .aggL ⟨.t _, .t _, trivial⟩, trivial⟩ rfl trivial (fun h => by cases h) ?_; refine PL.nm (.tup [.agg [.os 4 0 r1.1.pages.length], bA r1.2]) [some ⟨.mx [sL p_h.pages], 30, 0⟩, some ⟨.mx [iA p_r.page, iA p_r.slot], 34, 0⟩, some ⟨.mx [.t (.v (.slice none 0 0))], 30, 0⟩, some ⟨.mx [iA (0 : Int), iA (0 : Int)], 34, 0⟩, some ⟨.tr (eL r1.1.pages), 50, 1⟩] rfl rfl ?_; refine PL.op rfl (Rd.moveU rfl) ?_; (iterate 2 refine PL.op rfl (Rd.extract rfl rfl) ?_); refine PL.ef rfl (Ef.alloc rfl rfl) ?_; refine PL.nm (.op 5 0) [some ⟨.mx [sL p_h.pages], 30, 0⟩, some ⟨.mx [iA p_r.page, iA p_r.slot], 34, 0⟩, some ⟨.mx [.t (.v (.slice none 0 0))], 30, 0⟩, some ⟨.mx [iA (0 : Int), iA (0 : Int)], 34, 0⟩, some ⟨.tr (eL r1.1.pages), 50, 1⟩, some ⟨.mx [.t (.v (.slice none 0 0))], 30, 0⟩] rfl rfl ?_; refine PL.store rfl rfl rfl rfl rfl rfl rfl ?_; refine PL.nO [some ⟨.mx [sL p_h.pages], 30, 0⟩, some ⟨.mx [iA p_r.page, iA p_r.slot], 34, 0⟩, some ⟨.mx [.t (.v (.slice none 0 0))], 30, 0⟩, some ⟨.mx [iA (0 : Int), iA (0 : Int)], 34, 0⟩, some ⟨.tr (eL r1.1.pages), 50, 1⟩, some ⟨.mx [.os 4 0 r1.1.pages.length], 30, 0⟩] rfl ?_; refine PL.op rfl (Rd.asnT rfl) ?_; refine PL.nil ?_; refine thA_n ?_; (iterate 2 refine PC.seq ?_); refine PC.region ?_; refine PL.op rfl (Rd.moveT rfl) ?_; refine PL.op rfl (Rd.unnot rfl) ?_; refine PL.nil ?_; refine thA_n ?_; rcases cond_some hh0 with ⟨h_3, hh0⟩ | ⟨h_3, hh0⟩; rotate_left
  · refine PC.cond_true rfl (not_f h_3) ?_; refine PC.seq ?_; refine PC.region ?_; (iterate 2 refine PL.op rfl (Rd.build rfl rfl rfl rfl) ?_); (iterate 2 refine PL.store rfl rfl rfl rfl rfl rfl rfl ?_); refine PL.op rfl (Rd.asnT rfl) ?_; refine PL.nil ?_; refine thA_n ?_; refine PC.ret ?_; refine thA_r ?_; obtain rfl := some_in hh0; exact FinA.mk (r := .tup [.agg [.os 0 0 ((((I_Heap.mk ([] : List I_Page)), (I_Rid.mk (0 : Int) (0 : Int)), false).1.pages).length)], .agg [iA (((I_Heap.mk ([] : List I_Page)), (I_Rid.mk (0 : Int) (0 : Int)), false).2.1.page), iA (((I_Heap.mk ([] : List I_Page)), (I_Rid.mk (0 : Int) (0 : Int)), false).2.1.slot)], bA (((I_Heap.mk ([] : List I_Page)), (I_Rid.mk (0 : Int) (0 : Int)), false).2.2)]) (bl := [⟨.tr (eL (((I_Heap.mk ([] : List I_Page)), (I_Rid.mk (0 : Int) (0 : Int)), false).1.pages)), 50, 1⟩]) [none] (.inl rfl) rfl (rl := [.cell 6 30, .cell 7 34, .tmp 8]) (.cellN rfl rfl rfl rfl (.cellN rfl rfl rfl rfl (.tmp .nil))) rfl rfl rfl (.tupL ⟨.aggL ⟨.osn rfl, trivial⟩, .aggL ⟨.t _, .t _, trivial⟩, .t _, trivial⟩) ⟨ow_nil _, trivial⟩ ⟨rfl, rfl⟩
  refine PC.cond_false rfl (not_t h_3) ?_; refine PC.skip ?_; refine thA_n ?_; obtain ⟨x4, h_5, hh0⟩ := bind_some hh0; obtain ⟨r6, h_7, hh0⟩ := bind_some hh0; refine PC.cut hs (fun _ : Unit => [(2, sA p_data), (3, .op 0 0), (4, .op 1 0), (6, .op 2 0), (7, .op 3 0), (9, .op 4 0), (11, .op 6 0), (12, bA r6.2)]) (fun _ => [⟨.mx [sL p_h.pages], 30, 0⟩, ⟨.mx [iA p_r.page, iA p_r.slot], 34, 0⟩, ⟨.mx [.t (.v (.slice none 0 0))], 30, 0⟩, ⟨.mx [iA (0 : Int), iA (0 : Int)], 34, 0⟩, ⟨.mx [.os 5 0 r1.1.pages.length], 30, 0⟩, ⟨.tr (eL r1.1.pages), 50, 1⟩, ⟨.mx [.os 7 0 r6.1.slots.length], 50, 0⟩, ⟨.tr (eL r6.1.slots), 70, 2⟩]) (fun _ => True) ?_ ?_
  · refine PC.any (id := 4) 16 (.seg [0, 1, 2, 3, 4, 5, 6, 7, 8] (.fork (.seg [9, 10, 11, 12, 13, 14, 15] .done) (.seg [13, 9, 10, 11, 12, 14, 15] .done))) [] rfl (by kernel_rfl) rfl ?_; refine PT.seg ?_; refine PR.op rfl (Rd.fieldO rfl rfl) ?_; refine PR.op rfl (Rd.loadO rfl rfl rfl) ?_; refine PR.op rfl (Rd.fieldO rfl rfl) ?_; refine PR.op rfl (Rd.loadO rfl rfl rfl) ?_; refine PR.op rfl (Rd.ixM rfl rfl h_5) ?_; refine PR.op rfl (Rd.elMR rfl h_5 rfl rfl) ?_; refine PR.op rfl (Rd.fieldO rfl rfl) ?_; refine PR.op rfl (Rd.loadO rfl rfl rfl) ?_; refine PR.op rfl (Rd.moveT rfl) ?_; refine PR.nil ?_; refine PT.fork ?_ ?_
    · refine PT.seg ?_; refine PR.callM false [] (w_S_SetSlot N x4 p_r.slot p_data r6 h_7) rfl Try.call34 rfl ⟨.aggL ⟨.t _, trivial⟩, .t _, .t _, trivial⟩ rfl trivial (fun h => by cases h) rfl ?_; refine PR.nm (.tup [.agg [.os 6 0 r6.1.slots.length], bA r6.2]) [some ⟨.mx [sL p_h.pages], 30, 0⟩, some ⟨.mx [iA p_r.page, iA p_r.slot], 34, 0⟩, some ⟨.mx [.t (.v (.slice none 0 0))], 30, 0⟩, some ⟨.mx [iA (0 : Int), iA (0 : Int)], 34, 0⟩, some ⟨.tr (eL r1.1.pages), 50, 1⟩, some ⟨.mx [.os 4 0 r1.1.pages.length], 30, 0⟩, some ⟨.tr (eL r6.1.slots), 70, 2⟩] rfl rfl ?_; refine PR.op rfl (Rd.moveU rfl) ?_; (iterate 2 refine PR.op rfl (Rd.extract rfl rfl) ?_); refine PR.efX rfl rfl (Ef.alloc rfl rfl) ?_; refine PR.nm (.op 7 0) [some ⟨.mx [sL p_h.pages], 30, 0⟩, some ⟨.mx [iA p_r.page, iA p_r.slot], 34, 0⟩, some ⟨.mx [.t (.v (.slice none 0 0))], 30, 0⟩, some ⟨.mx [iA (0 : Int), iA (0 : Int)], 34, 0⟩, some ⟨.tr (eL r1.1.pages), 50, 1⟩, some ⟨.mx [.os 4 0 r1.1.pages.length], 30, 0⟩, some ⟨.tr (eL r6.1.slots), 70, 2⟩, some ⟨.mx [.t (.v (.slice none 0 0))], 50, 0⟩] rfl rfl ?_; refine PR.store rfl rfl rfl rfl rfl rfl rfl rfl ?_; refine PR.nO [some ⟨.mx [sL p_h.pages], 30, 0⟩, some ⟨.mx [iA p_r.page, iA p_r.slot], 34, 0⟩, some ⟨.mx [.t (.v (.slice none 0 0))], 30, 0⟩, some ⟨.mx [iA (0 : Int), iA (0 : Int)], 34, 0⟩, some ⟨.tr (eL r1.1.pages), 50, 1⟩, some ⟨.mx [.os 4 0 r1.1.pages.length], 30, 0⟩, some ⟨.tr (eL r6.1.slots), 70, 2⟩, some ⟨.mx [.os 6 0 r6.1.slots.length], 50, 0⟩] rfl ?_; refine PR.op rfl (Rd.asnT rfl) ?_; refine PR.nil ?_; refine PT.done ?_; refine PL.nil ?_; refine thA_n ?_; exact ⟨(), trivial, [some 0, some 1, some 2, some 3, some 5, some 4, some 7, some 6], ⟨rfl, rfl, ⟨⟨_, rfl, rfl, rfl, .mx ⟨.t _, trivial⟩⟩, ⟨_, rfl, rfl, rfl, .mx ⟨.t _, .t _, trivial⟩⟩, ⟨_, rfl, rfl, rfl, .mx ⟨.t _, trivial⟩⟩, ⟨_, rfl, rfl, rfl, .mx ⟨.t _, .t _, trivial⟩⟩, ⟨_, rfl, rfl, rfl, .mx ⟨.os rfl, trivial⟩⟩, ⟨_, rfl, rfl, rfl, .tr _⟩, ⟨_, rfl, rfl, rfl, .mx ⟨.os rfl, trivial⟩⟩, ⟨_, rfl, rfl, rfl, .tr _⟩, trivial⟩, ⟨.t _, .op rfl, .op rfl, .op rfl, .op rfl, .op rfl, .op rfl, .t _, trivial⟩⟩⟩
    refine PT.seg ?_; refine PR.efX rfl rfl (Ef.alloc rfl rfl) ?_; refine PR.nm (.op 6 0) [some ⟨.mx [sL p_h.pages], 30, 0⟩, some ⟨.mx [iA p_r.page, iA p_r.slot], 34, 0⟩, some ⟨.mx [.t (.v (.slice none 0 0))], 30, 0⟩, some ⟨.mx [iA (0 : Int), iA (0 : Int)], 34, 0⟩, some ⟨.tr (eL r1.1.pages), 50, 1⟩, some ⟨.mx [.os 4 0 r1.1.pages.length], 30, 0⟩, some ⟨.mx [.t (.v (.slice none 0 0))], 50, 0⟩] rfl rfl ?_; refine PR.callM false [] (w_S_SetSlot N x4 p_r.slot p_data r6 h_7) rfl Try.call34 rfl ⟨.aggL ⟨.t _, trivial⟩, .t _, .t _, trivial⟩ rfl trivial (fun h => by cases h) rfl ?_; refine PR.nm (.tup [.agg [.os 7 0 r6.1.slots.length], bA r6.2]) [some ⟨.mx [sL p_h.pages], 30, 0⟩, some ⟨.mx [iA p_r.page, iA p_r.slot], 34, 0⟩, some ⟨.mx [.t (.v (.slice none 0 0))], 30, 0⟩, some ⟨.mx [iA (0 : Int), iA (0 : Int)], 34, 0⟩, some ⟨.tr (eL r1.1.pages), 50, 1⟩, some ⟨.mx [.os 4 0 r1.1.pages.length], 30, 0⟩, some ⟨.mx [.t (.v (.slice none 0 0))], 50, 0⟩, some ⟨.tr (eL r6.1.slots), 70, 2⟩] rfl rfl ?_; refine PR.op rfl (Rd.moveU rfl) ?_; (iterate 2 refine PR.op rfl (Rd.extract rfl rfl) ?_); refine PR.store rfl rfl rfl rfl rfl rfl rfl rfl ?_; refine PR.nO [some ⟨.mx [sL p_h.pages], 30, 0⟩, some ⟨.mx [iA p_r.page, iA p_r.slot], 34, 0⟩, some ⟨.mx [.t (.v (.slice none 0 0))], 30, 0⟩, some ⟨.mx [iA (0 : Int), iA (0 : Int)], 34, 0⟩, some ⟨.tr (eL r1.1.pages), 50, 1⟩, some ⟨.mx [.os 4 0 r1.1.pages.length], 30, 0⟩, some ⟨.mx [.os 7 0 r6.1.slots.length], 50, 0⟩, some ⟨.tr (eL r6.1.slots), 70, 2⟩] rfl ?_; refine PR.op rfl (Rd.asnT rfl) ?_; refine PR.nil ?_; refine PT.done ?_; refine PL.nil ?_; refine thA_n ?_; exact ⟨(), trivial, [some 0, some 1, some 2, some 3, some 5, some 4, some 6, some 7], ⟨rfl, rfl, ⟨⟨_, rfl, rfl, rfl, .mx ⟨.t _, trivial⟩⟩, ⟨_, rfl, rfl, rfl, .mx ⟨.t _, .t _, trivial⟩⟩, ⟨_, rfl, rfl, rfl, .mx ⟨.t _, trivial⟩⟩, ⟨_, rfl, rfl, rfl, .mx ⟨.t _, .t _, trivial⟩⟩, ⟨_, rfl, rfl, rfl, .mx ⟨.os rfl, trivial⟩⟩, ⟨_, rfl, rfl, rfl, .tr _⟩, ⟨_, rfl, rfl, rfl, .mx ⟨.os rfl, trivial⟩⟩, ⟨_, rfl, rfl, rfl, .tr _⟩, trivial⟩, ⟨.t _, .op rfl, .op rfl, .op rfl, .op rfl, .op rfl, .op rfl, .t _, trivial⟩⟩⟩
  rintro ⟨⟩ -
  (iterate 2 refine PC.seq ?_); refine PC.region ?_; refine PL.op rfl (Rd.moveT rfl) ?_; refine PL.op rfl (Rd.unnot rfl) ?_; refine PL.nil ?_; refine thA_n ?_; rcases cond_some hh0 with ⟨h_8, hh0⟩ | ⟨h_8, hh0⟩; rotate_left
  · refine PC.cond_true rfl (not_f h_8) ?_; refine PC.seq ?_; obtain ⟨r13, h_14, hh0⟩ := bind_some hh0; refine PC.region ?_; refine PL.op rfl (Rd.loadBox rfl rfl rfl) ?_; refine PL.op rfl (Rd.moveT rfl) ?_; refine PL.frz hs 5 8 [(39, .agg [sL r1.1.pages])] [some ⟨.mx [sL p_h.pages], 30, 0⟩, some ⟨.mx [iA p_r.page, iA p_r.slot], 34, 0⟩, some ⟨.mx [.t (.v (.slice none 0 0))], 30, 0⟩, some ⟨.mx [iA (0 : Int), iA (0 : Int)], 34, 0⟩, some ⟨.mx [sL r1.1.pages], 30, 0⟩, none, some ⟨.mx [.os 7 0 r6.1.slots.length], 50, 0⟩, some ⟨.tr (eL r6.1.slots), 70, 2⟩] rfl rfl ⟨(.aggL ⟨(.own rfl (by decide) rfl rfl), trivial⟩), trivial⟩ ⟨⟨rfl, .inl rfl⟩, ⟨rfl, .inl rfl⟩, ⟨rfl, .inl rfl⟩, ⟨rfl, .inl rfl⟩, ⟨rfl, .inr ⟨_, rfl, rfl, rfl, .mx ⟨(.own rfl (by decide) rfl rfl), trivial⟩⟩⟩, ⟨rfl, .inl rfl⟩, ⟨rfl, .inl rfl⟩, trivial⟩ ?_; refine PL.callM false [] (w_S_insert N r1.1 p_data r13 h_14) rfl Try.call32 rfl ⟨.aggL ⟨.t _, trivial⟩, .t _, trivial⟩ rfl trivial (fun h => by cases h) ?_; refine PL.nm (.tup [.agg [.os 8 0 r13.1.pages.length], .agg [iA r13.2.1.page, iA r13.2.1.slot], bA r13.2.2]) [some ⟨.mx [sL p_h.pages], 30, 0⟩, some ⟨.mx [iA p_r.page, iA p_r.slot], 34, 0⟩, some ⟨.mx [.t (.v (.slice none 0 0))], 30, 0⟩, some ⟨.mx [iA (0 : Int), iA (0 : Int)], 34, 0⟩, some ⟨.mx [sL r1.1.pages], 30, 0⟩, none, some ⟨.mx [.os 7 0 r6.1.slots.length], 50, 0⟩, some ⟨.tr (eL r6.1.slots), 70, 2⟩, some ⟨.tr (eL r13.1.pages), 50, 1⟩] rfl rfl ?_; (iterate 3 refine PL.op rfl (Rd.extract rfl rfl) ?_); refine PL.store rfl rfl rfl rfl rfl rfl rfl ?_; refine PL.nO [some ⟨.mx [sL p_h.pages], 30, 0⟩, some ⟨.mx [iA p_r.page, iA p_r.slot], 34, 0⟩, some ⟨.mx [.os 8 0 r13.1.pages.length], 30, 0⟩, some ⟨.mx [iA (0 : Int), iA (0 : Int)], 34, 0⟩, some ⟨.mx [sL r1.1.pages], 30, 0⟩, none, some ⟨.mx [.os 7 0 r6.1.slots.length], 50, 0⟩, some ⟨.tr (eL r6.1.slots), 70, 2⟩, some ⟨.tr (eL r13.1.pages), 50, 1⟩] rfl ?_; refine PL.store rfl rfl rfl rfl rfl rfl rfl ?_; refine PL.nO [some ⟨.mx [sL p_h.pages], 30, 0⟩, some ⟨.mx [iA p_r.page, iA p_r.slot], 34, 0⟩, some ⟨.mx [.os 8 0 r13.1.pages.length], 30, 0⟩, some ⟨.mx [iA r13.2.1.page, iA r13.2.1.slot], 34, 0⟩, some ⟨.mx [sL r1.1.pages], 30, 0⟩, none, some ⟨.mx [.os 7 0 r6.1.slots.length], 50, 0⟩, some ⟨.tr (eL r6.1.slots), 70, 2⟩, some ⟨.tr (eL r13.1.pages), 50, 1⟩] rfl ?_; refine PL.op rfl (Rd.asnT rfl) ?_; refine PL.nil ?_; refine thA_n ?_; refine PC.ret ?_; refine thA_r ?_; obtain rfl := some_in hh0; exact FinA.mk (r := .tup [.agg [.os 0 0 (((r13.1, r13.2.1, r13.2.2).1.pages).length)], .agg [iA ((r13.1, r13.2.1, r13.2.2).2.1.page), iA ((r13.1, r13.2.1, r13.2.2).2.1.slot)], bA ((r13.1, r13.2.1, r13.2.2).2.2)]) (bl := [⟨.tr (eL ((r13.1, r13.2.1, r13.2.2).1.pages)), 50, 1⟩]) [some 8] (.inl rfl) rfl (rl := [.cell 6 30, .cell 7 34, .tmp 8]) (.cellN rfl rfl rfl rfl (.cellN rfl rfl rfl rfl (.tmp .nil))) rfl rfl rfl (.tupL ⟨.aggL ⟨.os rfl, trivial⟩, .aggL ⟨.t _, .t _, trivial⟩, .t _, trivial⟩) ⟨⟨_, rfl, rfl, rfl, .tr _⟩, trivial⟩ ⟨rfl, rfl⟩
  refine PC.cond_false rfl (not_t h_8) ?_; refine PC.skip ?_; refine thA_n ?_; refine PC.seq ?_; obtain ⟨r9, h_10, hh0⟩ := bind_some hh0; refine PC.region ?_; refine PL.op rfl (Rd.loadBox rfl rfl rfl) ?_; refine PL.callM false [] (w_S_copyHeap N p_h r9 h_10) rfl Try.call23 rfl ⟨.aggL ⟨.t _, trivial⟩, trivial⟩ rfl trivial (fun h => by cases h) ?_; refine PL.nm (.agg [.os 8 0 r9.pages.length]) [some ⟨.mx [sL p_h.pages], 30, 0⟩, some ⟨.mx [iA p_r.page, iA p_r.slot], 34, 0⟩, some ⟨.mx [.t (.v (.slice none 0 0))], 30, 0⟩, some ⟨.mx [iA (0 : Int), iA (0 : Int)], 34, 0⟩, some ⟨.mx [.os 5 0 r1.1.pages.length], 30, 0⟩, some ⟨.tr (eL r1.1.pages), 50, 1⟩, some ⟨.mx [.os 7 0 r6.1.slots.length], 50, 0⟩, some ⟨.tr (eL r6.1.slots), 70, 2⟩, some ⟨.tr (eL r9.pages), 50, 1⟩] rfl rfl ?_; refine PL.ef rfl (Ef.alloc rfl rfl) ?_; refine PL.nm (.op 9 0) [some ⟨.mx [sL p_h.pages], 30, 0⟩, some ⟨.mx [iA p_r.page, iA p_r.slot], 34, 0⟩, some ⟨.mx [.t (.v (.slice none 0 0))], 30, 0⟩, some ⟨.mx [iA (0 : Int), iA (0 : Int)], 34, 0⟩, some ⟨.mx [.os 5 0 r1.1.pages.length], 30, 0⟩, some ⟨.tr (eL r1.1.pages), 50, 1⟩, some ⟨.mx [.os 7 0 r6.1.slots.length], 50, 0⟩, some ⟨.tr (eL r6.1.slots), 70, 2⟩, some ⟨.tr (eL r9.pages), 50, 1⟩, some ⟨.mx [.t (.v (.slice none 0 0))], 30, 0⟩] rfl rfl ?_; refine PL.store rfl rfl rfl rfl rfl rfl rfl ?_; refine PL.nO [some ⟨.mx [sL p_h.pages], 30, 0⟩, some ⟨.mx [iA p_r.page, iA p_r.slot], 34, 0⟩, some ⟨.mx [.t (.v (.slice none 0 0))], 30, 0⟩, some ⟨.mx [iA (0 : Int), iA (0 : Int)], 34, 0⟩, some ⟨.mx [.os 5 0 r1.1.pages.length], 30, 0⟩, some ⟨.tr (eL r1.1.pages), 50, 1⟩, some ⟨.mx [.os 7 0 r6.1.slots.length], 50, 0⟩, some ⟨.tr (eL r6.1.slots), 70, 2⟩, some ⟨.tr (eL r9.pages), 50, 1⟩, some ⟨.mx [.os 8 0 r9.pages.length], 30, 0⟩] rfl ?_; refine PL.nil ?_; refine thA_n ?_; refine PC.seq ?_; obtain ⟨x11, h_12, hh0⟩ := bind_some hh0; refine PC.region ?_; refine PL.op rfl (Rd.fieldO rfl rfl) ?_; refine PL.op rfl (Rd.loadO rfl rfl rfl) ?_; refine PL.op rfl (Rd.fieldO rfl rfl) ?_; refine PL.op rfl (Rd.loadO rfl rfl rfl) ?_; refine PL.op rfl (Rd.loadBox rfl rfl rfl) ?_; refine PL.op rfl (Rd.ixOM rfl rfl rfl (ixI_lt h_12)) ?_; refine PL.frz hs 7 10 [(51, .agg [sL r6.1.slots])] [some ⟨.mx [sL p_h.pages], 30, 0⟩, some ⟨.mx [iA p_r.page, iA p_r.slot], 34, 0⟩, some ⟨.mx [.t (.v (.slice none 0 0))], 30, 0⟩, some ⟨.mx [iA (0 : Int), iA (0 : Int)], 34, 0⟩, some ⟨.mx [.os 5 0 r1.1.pages.length], 30, 0⟩, some ⟨.tr (eL r1.1.pages), 50, 1⟩, some ⟨.mx [sL r6.1.slots], 50, 0⟩, none, some ⟨.tr (eL r9.pages), 50, 1⟩, some ⟨.mx [.os 8 0 r9.pages.length], 30, 0⟩] rfl rfl ⟨(.aggL ⟨(.own rfl (by decide) rfl rfl), trivial⟩), trivial⟩ ⟨⟨rfl, .inl rfl⟩, ⟨rfl, .inl rfl⟩, ⟨rfl, .inl rfl⟩, ⟨rfl, .inl rfl⟩, ⟨rfl, .inl rfl⟩, ⟨rfl, .inl rfl⟩, ⟨rfl, .inr ⟨_, rfl, rfl, rfl, .mx ⟨(.own rfl (by decide) rfl rfl), trivial⟩⟩⟩, ⟨rfl, .inl rfl⟩, ⟨rfl, .inl rfl⟩, trivial⟩ ?_; refine PL.stRM r6.1 rfl rfl rfl rfl rfl h_12 rfl ?_; refine PL.nO [some ⟨.mx [sL p_h.pages], 30, 0⟩, some ⟨.mx [iA p_r.page, iA p_r.slot], 34, 0⟩, some ⟨.mx [.t (.v (.slice none 0 0))], 30, 0⟩, some ⟨.mx [iA (0 : Int), iA (0 : Int)], 34, 0⟩, some ⟨.mx [.os 5 0 r1.1.pages.length], 30, 0⟩, some ⟨.tr (eL r1.1.pages), 50, 1⟩, some ⟨.mx [sL r6.1.slots], 50, 0⟩, none, some ⟨.tr (eL (r9.pages.set p_r.page.toNat r6.1)), 50, 1⟩, some ⟨.mx [.os 8 0 r9.pages.length], 30, 0⟩] rfl ?_; refine PL.nil ?_; refine thA_n ?_; refine PC.seq ?_; refine PC.any (id := 9) 5 (.seg [0, 1, 2, 3, 4] .done) [2, 3] rfl (by kernel_rfl) rfl ?_; refine PT.seg ?_; (iterate 2 refine PR.op rfl (Rd.loadBox rfl rfl rfl) ?_); refine PR.store rfl rfl rfl rfl rfl rfl rfl rfl ?_; refine PR.nO [some ⟨.mx [sL p_h.pages], 30, 0⟩, some ⟨.mx [iA p_r.page, iA p_r.slot], 34, 0⟩, some ⟨.mx [.os 8 0 r9.pages.length], 30, 0⟩, some ⟨.mx [iA (0 : Int), iA (0 : Int)], 34, 0⟩, some ⟨.mx [.os 5 0 r1.1.pages.length], 30, 0⟩, some ⟨.tr (eL r1.1.pages), 50, 1⟩, some ⟨.mx [sL r6.1.slots], 50, 0⟩, none, some ⟨.tr (eL (r9.pages.set p_r.page.toNat r6.1)), 50, 1⟩, some ⟨.mx [.os 8 0 r9.pages.length], 30, 0⟩] rfl ?_; refine PR.store rfl rfl rfl rfl rfl rfl rfl rfl ?_; refine PR.nO [some ⟨.mx [sL p_h.pages], 30, 0⟩, some ⟨.mx [iA p_r.page, iA p_r.slot], 34, 0⟩, some ⟨.mx [.os 8 0 r9.pages.length], 30, 0⟩, some ⟨.mx [iA p_r.page, iA p_r.slot], 34, 0⟩, some ⟨.mx [.os 5 0 r1.1.pages.length], 30, 0⟩, some ⟨.tr (eL r1.1.pages), 50, 1⟩, some ⟨.mx [sL r6.1.slots], 50, 0⟩, none, some ⟨.tr (eL (r9.pages.set p_r.page.toNat r6.1)), 50, 1⟩, some ⟨.mx [.os 8 0 r9.pages.length], 30, 0⟩] rfl ?_; refine PR.op rfl (Rd.asnT rfl) ?_; refine PR.nil ?_; refine PT.done ?_; refine PL.nil ?_; refine thA_n ?_; refine PC.ret ?_; obtain rfl := some_in hh0; exact FinA.mk (r := .tup [.agg [.os 0 0 ((((I_Heap.mk (r9.pages.set p_r.page.toNat r6.1)), p_r, true).1.pages).length)], .agg [iA (((I_Heap.mk (r9.pages.set p_r.page.toNat r6.1)), p_r, true).2.1.page), iA (((I_Heap.mk (r9.pages.set p_r.page.toNat r6.1)), p_r, true).2.1.slot)], bA (((I_Heap.mk (r9.pages.set p_r.page.toNat r6.1)), p_r, true).2.2)]) (bl := [⟨.tr (eL (((I_Heap.mk (r9.pages.set p_r.page.toNat r6.1)), p_r, true).1.pages)), 50, 1⟩]) [some 8] (.inl rfl) rfl (rl := [.cell 6 30, .cell 7 34, .tmp 8]) (.cellN rfl rfl rfl rfl (.cellN rfl rfl rfl rfl (.tmp .nil))) rfl rfl rfl (.tupL ⟨.aggL ⟨.osE rfl (by simp only [List.length_set]), trivial⟩, .aggL ⟨.t _, .t _, trivial⟩, .t _, trivial⟩) ⟨⟨_, rfl, rfl, rfl, .tr _⟩, trivial⟩ ⟨rfl, rfl⟩
end V
end Go.Proofs.Ytmnjnkcooofgjaa
namespace Go.Proofs.Ytmnjnkcooofgjaa
namespace V
set_option linter.unusedVariables false
set_option linter.unusedSimpArgs false
section
variable {α β : Type}
/-- There is a result, and it is as told. -/
def ok (o : Option α) (Q : α → Prop) : Prop := ∃ r, o = some r ∧ Q r
theorem ok.some {Q : α → Prop} {r : α} (h : Q r) : ok (some r) Q := ⟨r, rfl, h⟩
theorem ok.of {o : Option α} {Q : α → Prop} {r : α} (e : o = Option.some r) (h : Q r) : ok o Q := ⟨r, e, h⟩
theorem ok.mono {o : Option α} {P Q : α → Prop} (h : ok o P) (hq : ∀ r, P r → Q r) : ok o Q := h.elim fun r h => ⟨r, h.1, hq r h.2⟩
theorem ok.call {o : Option α} {f : α → Option β} {P : α → Prop} {Q : β → Prop} (h : ok o P) (k : ∀ x, P x → ok (f x) Q) : ok (o.bind f) Q := by
  obtain ⟨r, e, hp⟩ := h; subst e; exact k r hp
theorem ok.eq {o : Option α} {f : α → Option β} {v : α} {Q : β → Prop} (h : o = Option.some v) (k : ok (f v) Q) : ok (o.bind f) Q := by subst h; exact k
theorem ok.cond {c : Bool} {a b : Option α} {Q : α → Prop} (h1 : c = true → ok a Q) (h2 : c = false → ok b Q) : ok (cond c a b) Q := by
  cases c
  · exact h2 rfl
  · exact h1 rfl
theorem ok.ite {c : Prop} [Decidable c] {a b : Option α} {Q : α → Prop} (h1 : c → ok a Q) (h2 : ¬ c → ok b Q) : ok (_root_.cond (decide c) a b) Q := by
  by_cases h : c
  · rw [decide_eq_true h]; exact h1 h
  · rw [decide_eq_false h]; exact h2 h
theorem ok.bs {v : α} {f : α → Option β} {Q : β → Prop} (k : ok (f v) Q) : ok ((Option.some v).bind f) Q := k
theorem ok.iff {c : Prop} [Decidable c] {a b : Option α} {Q : α → Prop} (h : ¬ c) (k : ok b Q) : ok (_root_.cond (decide c) a b) Q := by rw [decide_eq_false h]; exact k
theorem ok.ift {c : Prop} [Decidable c] {a b : Option α} {Q : α → Prop} (h : c) (k : ok a Q) : ok (_root_.cond (decide c) a b) Q := by rw [decide_eq_true h]; exact k
theorem ok.bt {c : Bool} {a b : Option α} {Q : α → Prop} (h : c = true) (k : ok a Q) : ok (_root_.cond c a b) Q := by rw [h]; exact k
theorem ok.bf {c : Bool} {a b : Option α} {Q : α → Prop} (h : c = false) (k : ok b Q) : ok (_root_.cond c a b) Q := by rw [h]; exact k
theorem ok.chk {e : Int} {f : Int → Option β} {Q : β → Prop} (h : -9223372036854775808 ≤ e ∧ e ≤ 9223372036854775807) (k : ok (f e) Q) : ok ((V.chk e).bind f) Q := by
  unfold V.chk; rw [if_pos h]; exact k
theorem chk_eq {e : Int} (h : -9223372036854775808 ≤ e ∧ e ≤ 9223372036854775807) : chk e = some e := if_pos h
theorem ixI_eq {xs : List α} {i : Int} {n : Nat} (h : i = n) (hn : n < xs.length) : ixI xs i = some xs[n] := by
  subst h; unfold ixI; rw [if_pos (by omega)]; simp [hn]
theorem ixI_nat {xs : List α} {n : Nat} (hn : n < xs.length) : ixI xs (n : Int) = some xs[n] := ixI_eq rfl hn
theorem ok.ix {xs : List α} {i : Int} {f : α → Option β} {Q : β → Prop} (h0 : 0 ≤ i) (h1 : i < xs.length) (k : ∀ (n : Nat) (hn : n < xs.length), i = n → ok (f xs[n]) Q) : ok ((ixI xs i).bind f) Q := by
  obtain ⟨n, rfl⟩ := Int.eq_ofNat_of_zero_le h0
  rw [ixI_nat (by omega)]
  exact k n (by omega) rfl
theorem remM_eq {a b : Int} (h : 0 ≤ a ∧ 1 ≤ b) : remM a b = some (a % b) := if_pos h
theorem quoM_eq {a b : Int} (h : 0 ≤ a ∧ a ≤ 9223372036854775807 ∧ 1 ≤ b) : quoM a b = some (a / b) := if_pos h
theorem appM_eq {w : Nat} {xs ys : List α} (h : (xs.length + ys.length) * w ≤ 140737488355328 ∧ xs.length + ys.length ≤ 4611686018427387904) : appM w xs ys = some (xs ++ ys) := if_pos h
theorem subM_eq {xs : List α} {l h : Int} (hh : 0 ≤ l ∧ l ≤ h ∧ h ≤ (xs.length : Int)) : subM xs l h = some ((xs.drop l.toNat).take (h.toNat - l.toNat)) := if_pos hh
theorem addS_eq {a b : ByteArray} (h : a.size + b.size ≤ 9223372036854775807) : addS a b = some (a ++ b) := if_pos h
theorem ok.remM {a b : Int} {f : Int → Option β} {Q : β → Prop} (h : 0 ≤ a ∧ 1 ≤ b) (k : ∀ x : Int, x = a % b ∧ 0 ≤ x ∧ x < b → ok (f x) Q) : ok ((V.remM a b).bind f) Q := by
  rw [remM_eq h]; exact k _ ⟨rfl, Int.emod_nonneg _ (by omega), Int.emod_lt_of_pos _ (by omega)⟩
theorem ok.quoM {a b : Int} {f : Int → Option β} {Q : β → Prop} (h : 0 ≤ a ∧ a ≤ 9223372036854775807 ∧ 1 ≤ b) (k : ∀ x : Int, x = a / b ∧ 0 ≤ x ∧ x ≤ a → ok (f x) Q) : ok ((V.quoM a b).bind f) Q := by
  rw [quoM_eq h]; exact k _ ⟨rfl, Int.ediv_nonneg h.1 (by omega), Int.ediv_le_self _ h.1⟩
theorem ok.app {w : Nat} {xs ys : List α} {f : List α → Option β} {Q : β → Prop} (h : (xs.length + ys.length) * w ≤ 140737488355328 ∧ xs.length + ys.length ≤ 4611686018427387904) (k : ok (f (xs ++ ys)) Q) : ok ((appM w xs ys).bind f) Q := by
  rw [appM_eq h]; exact k
theorem ok.val {o : Option α} {v : α} (h : ok o fun r => r = v) : o = Option.some v := by obtain ⟨r, e, rfl⟩ := h; exact e
/-- A loop with an invariant and a measure. -/
theorem ok.loop {σ : Type} {body : σ → Option (σ ⊕ β)} (I : σ → Prop) (μ : σ → Nat) (Q : β → Prop) (h : ∀ s, I s → ok (body s) (fun y => match y with | .inl s' => I s' ∧ μ s' < μ s | .inr b => Q b)) :
    ∀ (N : Nat) (s : σ), I s → μ s < N → ok (loopM body N s) Q := by
  intro N
  induction N with
  | zero => intro s _ h; omega
  | succ N ih =>
    intro s hs hN
    obtain ⟨y, e, hy⟩ := h s hs
    unfold loopM
    rw [e]
    cases y with
    | inl s' => exact ih s' hy.1 (by have := hy.2; omega)
    | inr b => exact ⟨b, rfl, hy⟩
/-- An index runs up to n; what was passed is good. -/
theorem ok.up {body : Int → Option (Int ⊕ β)} (n : Nat) (G : Nat → Prop) (Q : β → Prop) {N : Nat} (hN : n < N) (h : ∀ i, i < n → (∀ k, k < i → G k) → ok (body (i : Int)) fun y => match y with | .inl j => j = (i : Int) + 1 ∧ G i | .inr b => Q b)
    (he : (∀ k, k < n → G k) → ok (body (n : Int)) fun y => match y with | .inl _ => False | .inr b => Q b) : ok (loopM body N (0 : Int)) Q := by
  refine ok.loop (fun i : Int => ∃ m : Nat, i = m ∧ m ≤ n ∧ ∀ k, k < m → G k) (fun i : Int => ((n : Int) - i).toNat) Q ?_ N 0 ⟨0, rfl, Nat.zero_le _, fun k h => by omega⟩ (by omega)
  rintro i ⟨m, rfl, hm, hg⟩
  rcases Nat.lt_or_ge m n with hlt | hge
  · refine (h m hlt hg).mono ?_
    rintro (j | b) hy
    · obtain ⟨rfl, h2⟩ := hy
      exact ⟨⟨m + 1, by omega, by omega, fun k hk => by rcases Nat.lt_succ_iff_lt_or_eq.1 hk with h | rfl; exact hg k h; exact h2⟩, by omega⟩
    · exact hy
  · obtain rfl : m = n := by omega
    refine (he hg).mono ?_
    rintro (j | b) hy
    · exact hy.elim
    · exact hy
/-- What holds of a result if there is one. -/
def al (o : Option α) (Q : α → Prop) : Prop := ∀ r, o = Option.some r → Q r
theorem al.some {Q : α → Prop} {r : α} (h : Q r) : al (some r) Q := fun _ e => by cases e; exact h
theorem al.none {Q : α → Prop} : al none Q := fun _ e => by cases e
theorem al.bind {o : Option α} {f : α → Option β} {Q : β → Prop} (h : ∀ x, o = Option.some x → al (f x) Q) : al (o.bind f) Q := fun r e => by
  obtain ⟨x, h1, h2⟩ := bind_some e; exact h x h1 r h2
theorem al.cond {c : Bool} {a b : Option α} {Q : α → Prop} (h1 : c = true → al a Q) (h2 : c = false → al b Q) : al (_root_.cond c a b) Q := by
  cases c
  · exact h2 rfl
  · exact h1 rfl
theorem al.loop {σ : Type} {body : σ → Option (σ ⊕ β)} (I : σ → Prop) (Q : β → Prop) (h : ∀ s, I s → al (body s) (fun y => match y with | .inl s' => I s' | .inr b => Q b)) : ∀ (N : Nat) (s : σ), I s → al (loopM body N s) Q := by
  intro N
  induction N with
  | zero => intro s _; exact al.none
  | succ N ih =>
    intro s hs r e
    obtain ⟨m, y, e1, e2, e3⟩ := loopM_some e
    cases e1
    have := h s hs y e2
    cases y with
    | inl s' => exact ih s' this r e3
    | inr b => cases e3; exact this
/-- A loop whose result is told by a function of its state. -/
theorem loopM_fun {σ : Type} {body : σ → Option (σ ⊕ β)} (I : σ → Prop) (μ : σ → Nat) (F : σ → β) (h : ∀ s, I s → ∃ y, body s = some y ∧ match y with | .inl s' => I s' ∧ μ s' < μ s ∧ F s' = F s | .inr b => b = F s) :
    ∀ (N : Nat) (s : σ), I s → μ s < N → loopM body N s = some (F s) := by
  intro N
  induction N with
  | zero => intro s _ h; omega
  | succ N ih =>
    intro s hs hN
    obtain ⟨y, e, hy⟩ := h s hs
    unfold loopM
    rw [e]
    cases y with
    | inl s' => obtain ⟨h1, h2, h3⟩ := hy; rw [← h3]; exact ih s' h1 (by omega)
    | inr b => rw [hy]
end
end V
end Go.Proofs.Ytmnjnkcooofgjaa
namespace Go.Proofs.Ytmnjnkcooofgjaa
namespace V
set_option linter.unusedVariables false
set_option linter.unusedSimpArgs false
/-- An index runs up from i to n; I tells the state. -/
theorem ok.each {S β : Type} {body : S → Option (S ⊕ β)} (n : Nat) (I : Nat → S → Prop) (Q : β → Prop) (h : ∀ i s, i < n → I i s → ok (body s) fun y => match y with | .inl s' => I (i + 1) s' | .inr b => Q b)
    (he : ∀ s, I n s → ok (body s) fun y => match y with | .inl _ => False | .inr b => Q b) : ∀ (N i : Nat) (s : S), i ≤ n → I i s → n - i < N → ok (loopM body N s) Q := by
  intro N
  induction N with
  | zero => intro i s _ _ h; omega
  | succ N ih =>
    intro i s hi hs hN
    unfold loopM
    rcases Nat.lt_or_ge i n with hlt | hge
    · obtain ⟨y, e, hy⟩ := h i s hlt hs
      rw [e]
      cases y with
      | inl s' => exact ih (i + 1) s' hlt hy (by omega)
      | inr b => exact ⟨b, rfl, hy⟩
    · obtain rfl : i = n := by omega
      obtain ⟨y, e, hy⟩ := he s hs
      rw [e]
      cases y with
      | inl s' => exact hy.elim
      | inr b => exact ⟨b, rfl, hy⟩
theorem bool_eq {o : Option Bool} {p : Prop} [Decidable p] (h : ok o fun r => r = true ↔ p) : o = some (decide p) := by
  obtain ⟨r, e, hr⟩ := h
  rw [e]; congr 1
  by_cases hp : p
  · rw [decide_eq_true hp]; exact hr.2 hp
  · rw [decide_eq_false hp]; cases r
    · rfl
    · exact (hp (hr.1 rfl)).elim
end V
end Go.Proofs.Ytmnjnkcooofgjaa
namespace Go.Proofs.Ytmnjnkcooofgjaa
namespace V
set_option linter.unusedVariables false
set_option linter.unusedSimpArgs false
section
variable {α : Type} (mk : α → Int → α) (c : α → Nat)
/-- All elements marked, one after the other; c: how many numbers an element takes. -/
def cL : List α → Nat
  | [] => 0
  | x :: xs => c x + cL xs
def mkL : List α → Int → List α
  | [], _ => []
  | x :: xs, k => mk x k :: mkL xs (k + c x)
theorem mkL_len : ∀ (xs : List α) (k : Int), (mkL mk c xs k).length = xs.length
  | [], _ => rfl
  | x :: xs, k => by simp [mkL, mkL_len xs]
theorem cL_app : ∀ xs ys : List α, cL c (xs ++ ys) = cL c xs + cL c ys
  | [], ys => by simp [cL]
  | x :: xs, ys => by simp only [List.cons_append, cL, cL_app xs ys]; omega
theorem mkL_app : ∀ (xs ys : List α) (k : Int), mkL mk c (xs ++ ys) k = mkL mk c xs k ++ mkL mk c ys (k + cL c xs)
  | [], ys, k => by simp [mkL, cL]
  | x :: xs, ys, k => by simp only [List.cons_append, mkL, cL, mkL_app xs ys, Int.natCast_add, Int.add_assoc]
theorem take_succ' {xs : List α} {i : Nat} (h : i < xs.length) : xs.take (i + 1) = xs.take i ++ [xs[i]] := by rw [List.take_add_one, List.getElem?_eq_getElem h]; rfl
theorem cL_take {xs : List α} {i : Nat} (h : i < xs.length) : cL c (xs.take (i + 1)) = cL c (xs.take i) + c xs[i] := by rw [take_succ' h, cL_app]; simp [cL]
theorem cL_take_le (xs : List α) (i : Nat) : cL c (xs.take i) ≤ cL c xs := by
  have := cL_app c (xs.take i) (xs.drop i); rw [List.take_append_drop] at this; omega
theorem cL_const {m : Nat} (h : ∀ x, c x = m) : ∀ xs, cL c xs = m * xs.length
  | [] => by simp [cL]
  | x :: xs => by simp only [cL, h x, cL_const h xs, List.length_cons, Nat.mul_add]; omega
/-- The loop that marks. -/
theorem mark_loop {body : Int × Int × List α → Option ((Int × Int × List α) ⊕ (Int × List α))} {N : Nat} (xs : List α) (k0 : Int) (hN : xs.length < N)
    (h : ∀ (i : Nat) (hi : i < xs.length) (v : List α), v.length = xs.length → v[i]? = some xs[i] → body (k0 + cL c (xs.take i), (i : Int), v) = some (.inl (k0 + cL c (xs.take i) + c xs[i], (i : Int) + 1, v.set i (mk xs[i] (k0 + cL c (xs.take i))))))
    (he : ∀ (k : Int) (v : List α), v.length = xs.length → body (k, (xs.length : Int), v) = some (.inr (k, v))) :
    loopM body N (k0, 0, xs) = some (k0 + cL c xs, mkL mk c xs k0) := by
  have key := ok.loop (body := body) (fun s => ∃ i : Nat, i ≤ xs.length ∧ s = (k0 + cL c (xs.take i), (i : Int), mkL mk c (xs.take i) k0 ++ xs.drop i)) (fun s => ((xs.length : Int) - s.2.1).toNat) (fun r => r = (k0 + cL c xs, mkL mk c xs k0)) ?_ N (k0, 0, xs) ⟨0, Nat.zero_le _, by simp [cL, mkL]⟩ (by simp; omega)
  · obtain ⟨r, e, rfl⟩ := key; exact e
  rintro _ ⟨i, hi, rfl⟩
  have hl : (mkL mk c (xs.take i) k0 ++ xs.drop i).length = xs.length := by simp [mkL_len]; omega
  rcases Nat.lt_or_ge i xs.length with hlt | hge
  · refine ok.of (h i hlt _ hl ?_) ⟨⟨i + 1, hlt, ?_⟩, by simp; omega⟩
    · rw [List.getElem?_append_right (by simp [mkL_len]; exact Nat.min_le_left _ _)]; simp [mkL_len, Nat.min_eq_left hi, List.getElem?_eq_getElem hlt]
    · rw [cL_take c hlt, take_succ' hlt, mkL_app]
      refine Prod.ext (by simp; omega) (Prod.ext (by simp) ?_)
      show (mkL mk c (xs.take i) k0 ++ xs.drop i).set i _ = _
      rw [List.set_append_right _ _ (by simp [mkL_len]; exact Nat.min_le_left _ _)]
      simp only [mkL_len, List.length_take, Nat.min_eq_left hi, Nat.sub_self, List.append_assoc]
      congr 1
      rw [List.drop_eq_getElem_cons hlt, List.set_cons_zero]
      rfl
  · obtain rfl : i = xs.length := by omega
    refine ok.of (he _ _ hl) ?_
    simp
/-- The loop that finds the marks again. -/
theorem held_loop {γ : Type} {body : Int × Int → Option ((Int × Int) ⊕ (Int ⊕ γ))} {N : Nat} (xs : List α) (k0 : Int) (hN : xs.length < N)
    (h : ∀ (i : Nat) (hi : i < xs.length), (mkL mk c xs k0)[i]? = some (mk xs[i] (k0 + cL c (xs.take i))) → body (k0 + cL c (xs.take i), (i : Int)) = some (.inl (k0 + cL c (xs.take i) + c xs[i], (i : Int) + 1)))
    (he : ∀ k : Int, body (k, (xs.length : Int)) = some (.inr (.inl k))) :
    loopM body N (k0, 0) = some (.inl (k0 + cL c xs)) := by
  have key := ok.loop (body := body) (fun s => ∃ i : Nat, i ≤ xs.length ∧ s = (k0 + cL c (xs.take i), (i : Int))) (fun s => ((xs.length : Int) - s.2).toNat) (fun r => r = .inl (k0 + cL c xs)) ?_ N (k0, 0) ⟨0, Nat.zero_le _, by simp [cL]⟩ (by simp; omega)
  · obtain ⟨r, e, rfl⟩ := key; exact e
  rintro _ ⟨i, hi, rfl⟩
  rcases Nat.lt_or_ge i xs.length with hlt | hge
  · refine ok.of (h i hlt ?_) ⟨⟨i + 1, hlt, ?_⟩, by simp; omega⟩
    · conv => lhs; rw [← List.take_append_drop i xs]
      rw [mkL_app, List.getElem?_append_right (by simp [mkL_len]; exact Nat.min_le_left _ _)]
      simp only [mkL_len, List.length_take, Nat.min_eq_left hi, Nat.sub_self]
      rw [List.drop_eq_getElem_cons hlt]; rfl
    · rw [cL_take c hlt]
      refine Prod.ext (by simp; omega) (by simp)
  · obtain rfl : i = xs.length := by omega
    refine ok.of (he _) ?_
    simp
/-- A loop that copies element by element into a new slice. -/
theorem to_loop {β : Type} {body : Int × List β → Option ((Int × List β) ⊕ List β)} {N : Nat} (xs : List α) (f : α → β) (z : List β) (hz : z.length = xs.length) (hN : xs.length < N)
    (h : ∀ (i : Nat) (hi : i < xs.length) (v : List β), v.length = xs.length → body ((i : Int), v) = some (.inl ((i : Int) + 1, v.set i (f xs[i]))))
    (he : ∀ v : List β, body ((xs.length : Int), v) = some (.inr v)) : loopM body N (0, z) = some (xs.map f) := by
  have key := ok.loop (body := body) (fun s => ∃ i : Nat, i ≤ xs.length ∧ s = ((i : Int), (xs.map f).take i ++ z.drop i)) (fun s => ((xs.length : Int) - s.1).toNat) (fun r => r = xs.map f) ?_ N (0, z) ⟨0, Nat.zero_le _, by simp⟩ (by simp; omega)
  · obtain ⟨r, e, rfl⟩ := key; exact e
  rintro _ ⟨i, hi, rfl⟩
  have hl : ((xs.map f).take i ++ z.drop i).length = xs.length := by simp; omega
  rcases Nat.lt_or_ge i xs.length with hlt | hge
  · refine ok.of (h i hlt _ hl) ⟨⟨i + 1, hlt, ?_⟩, by simp; omega⟩
    refine Prod.ext (by simp) ?_
    show ((xs.map f).take i ++ z.drop i).set i _ = _
    rw [List.set_append_right _ _ (by simp; exact Nat.min_le_left _ _), take_succ' (by simpa using hlt)]
    simp only [List.length_take, List.length_map, Nat.min_eq_left hi, Nat.sub_self, List.append_assoc]
    congr 1
    rw [List.drop_eq_getElem_cons (show i < z.length by omega), List.set_cons_zero, List.getElem_map]
    rfl
  · obtain rfl : i = xs.length := by omega
    refine ok.of (he _) ?_
    rw [List.take_of_length_le (by simp), List.drop_of_length_le (by omega), List.append_nil]
end
end V
end Go.Proofs.Ytmnjnkcooofgjaa
namespace Go.Proofs.Ytmnjnkcooofgjaa
namespace V
open Enc (enc)
set_option linter.unusedVariables false
set_option linter.unusedSimpArgs false
set_option maxHeartbeats 4000000
set_option maxRecDepth 100000
open Go.RowKit
attribute [local irreducible] thA inA FinA eL
def m_L_markText_k1 (N : Nat) (i13 : ByteArray) : Option (ByteArray) :=
  (addS (ByteArray.mk #[109]) i13).bind fun s19 =>
  some s19
def m_L_markText_b1 (N : Nat) (k2 : Int) (i3 : ByteArray) : Option ((Int × ByteArray) ⊕ ByteArray) :=
  cond (decide ((0 : Int) < k2))
    ((remM k2 (10 : Int)).bind fun n22 =>
    (chk ((48 : Int) + n22)).bind fun n24 =>
    (addS (b2s [(i2b n24)]) i3).bind fun s26 =>
    (quoM k2 (10 : Int)).bind fun n28 =>
    some (.inl (n28, s26)))
    (some (.inr i3))
def m_L_markText (N : Nat) (p_k : Int) : Option (ByteArray) :=
  cond (decide (p_k ≤ (0 : Int)))
    (some (ByteArray.mk #[109, 48]))
    ((loopM (β := ByteArray) (fun s : Int × ByteArray => m_L_markText_b1 N s.1 s.2) N (p_k, ByteArray.empty)).bind fun e =>
    m_L_markText_k1 N e)
theorem w_L_markText (N : Nat) (p_k : Int) (r : ByteArray) (hh0 : m_L_markText N p_k = some r) : FnX Try.prog 56 [] [iA p_k] (RE (sA r) []) := by
  unfold m_L_markText at hh0; refine FnX.mk Try.func56 rfl rfl ?_; intro s hs; refine PC.seq ?_; refine PC.region ?_; refine PL.op rfl (Rd.asnT rfl) ?_; refine PL.nil ?_; refine thA_n ?_; (iterate 2 refine PC.seq ?_); refine PC.region ?_; refine PL.op rfl (Rd.moveT rfl) ?_; refine PL.op rfl (Rd.leq rfl rfl) ?_; refine PL.nil ?_; refine thA_n ?_; rcases cond_some hh0 with ⟨h_1, hh0⟩ | ⟨h_1, hh0⟩
  · refine PC.cond_true rfl h_1 ?_; refine PC.seq ?_; refine PC.region ?_; refine PL.op rfl (Rd.asnT rfl) ?_; refine PL.nil ?_; refine thA_n ?_; refine PC.ret ?_; refine thA_r ?_; obtain rfl := some_in hh0; exact FinA.mk (r := sA (ByteArray.mk #[109, 48])) (bl := []) [] (.inl rfl) rfl (rl := [.tmp 2]) (.tmp .nil) rfl rfl rfl (.t _) trivial ⟨rfl, rfl⟩
  refine PC.cond_false rfl h_1 ?_; refine PC.skip ?_; refine thA_n ?_; refine PC.seq ?_; refine PC.region ?_; refine PL.op rfl (Rd.asnT rfl) ?_; refine PL.nil ?_; refine thA_n ?_; obtain ⟨o14, h_15, hh0⟩ := bind_some hh0; refine PC.cut hs (fun x : ByteArray => [(3, sA x)]) (fun x => []) (fun x => m_L_markText_k1 N x = some r) ?_ ?_
  · refine PC.block ?_; refine PC.loop hs (fun x : Nat × (Int × ByteArray) => [(0, iA x.2.1), (3, sA x.2.2)]) (fun x => []) (fun x => loopM (β := ByteArray) (fun s : Int × ByteArray => m_L_markText_b1 N s.1 s.2) x.1 x.2 = some o14) (fun x => x.1) (N, (p_k, ByteArray.empty)) [] ⟨rfl, rfl, trivial, ⟨.t _, .t _, trivial⟩⟩ h_15 ?_
    rintro ⟨f16_, k2, i3⟩ h_18
    obtain ⟨f16, y17, rfl, hh1, kk1⟩ := loopM_some h_18
    replace hh1 : m_L_markText_b1 N k2 i3 = some y17 := hh1
    unfold m_L_markText_b1 at hh1; (iterate 2 refine PC.seq ?_); refine PC.region ?_; refine PL.op rfl (Rd.moveT rfl) ?_; refine PL.op rfl (Rd.gtr rfl rfl) ?_; refine PL.nil ?_; refine thA_n ?_; rcases cond_some hh1 with ⟨h_21, hh1⟩ | ⟨h_21, hh1⟩; rotate_left
    · refine PC.cond_false rfl h_21 ?_; refine PC.exit ?_; (iterate 2 refine thA_e ?_); refine inA_eq rfl ?_; refine thA_n ?_; obtain rfl := some_in hh1; obtain rfl : (i3 : ByteArray) = o14 := kk1; exact ⟨i3, hh0, [], ⟨rfl, rfl, trivial, ⟨.t _, trivial⟩⟩⟩
    refine PC.cond_true rfl h_21 ?_; refine PC.skip ?_; refine thA_n ?_; refine PC.block ?_; refine PC.seq ?_; obtain ⟨n22, h_23, hh1⟩ := bind_some hh1; obtain ⟨n24, h_25, hh1⟩ := bind_some hh1; obtain ⟨s26, h_27, hh1⟩ := bind_some hh1; refine PC.region ?_; refine PL.op rfl (Rd.moveT rfl) ?_; refine PL.op rfl (Rd.remM rfl rfl h_23) ?_; refine PL.op rfl (Rd.addM rfl rfl h_25) ?_; refine PL.op rfl (Rd.toU8 rfl) ?_; refine PL.ef rfl (Ef.litM (α := UInt8) [(i2b n24)] [_] rfl rfl (by decide) rfl rfl rfl rfl) ?_; refine PL.nm (.os 0 0 1) [some ⟨.tr (eL [(i2b n24)]), 5, 1⟩] rfl rfl ?_; refine PL.op rfl (Rd.b2sO rfl rfl rfl) ?_; refine PL.op rfl (Rd.moveT rfl) ?_; refine PL.op rfl (Rd.addSM rfl rfl h_27) ?_; refine PL.op rfl (Rd.asnT rfl) ?_; refine PL.nil ?_; refine thA_n ?_; obtain ⟨n28, h_29, hh1⟩ := bind_some hh1; refine PC.region ?_; refine PL.op rfl (Rd.moveT rfl) ?_; refine PL.op rfl (Rd.quoM rfl rfl h_29) ?_; refine PL.op rfl (Rd.asnT rfl) ?_; refine PL.nil ?_; refine inA_n ?_; obtain rfl := some_in hh1; refine thA_n ?_; exact ⟨(f16, (n28, s26)), Nat.lt_succ_self _, kk1, [], ⟨rfl, rfl, trivial, ⟨.t _, .t _, trivial⟩⟩⟩
  clear hh0
  rintro i13 hh0
  replace hh0 : m_L_markText_k1 N i13 = some r := hh0
  unfold m_L_markText_k1 at hh0; refine PC.seq ?_; obtain ⟨s19, h_20, hh0⟩ := bind_some hh0; refine PC.region ?_; refine PL.op rfl (Rd.moveT rfl) ?_; refine PL.op rfl (Rd.addSM rfl rfl h_20) ?_; refine PL.op rfl (Rd.asnT rfl) ?_; refine PL.nil ?_; refine thA_n ?_; refine PC.ret ?_; obtain rfl := some_in hh0; exact FinA.mk (r := sA s19) (bl := []) [] (.inl rfl) rfl (rl := [.tmp 2]) (.tmp .nil) rfl rfl rfl (.t _) trivial ⟨rfl, rfl⟩
end V
end Go.Proofs.Ytmnjnkcooofgjaa
namespace Go.Proofs.Ytmnjnkcooofgjaa
namespace V
set_option linter.unusedVariables false
set_option linter.unusedSimpArgs false
noncomputable def mT (N : Nat) (k : Int) : ByteArray := (m_L_markText N k).getD ByteArray.empty
theorem b2s_one (c : UInt8) : (b2s [c]).size = 1 := rfl
theorem mT_eq {N : Nat} {k : Int} (hN : 100000000 ≤ N) (h0 : 0 ≤ k) (hk : k ≤ 50000000) : m_L_markText N k = some (mT N k) := by
  have h : ok (m_L_markText N k) fun _ => True := by
    unfold m_L_markText
    refine ok.ite (fun _ => ok.some trivial) fun hc => ?_
    refine ok.call (ok.loop (fun s => 0 ≤ s.1 ∧ s.1 ≤ k ∧ (s.2.size : Int) ≤ k - s.1) (fun s => s.1.toNat) (fun e => (e.size : Int) ≤ k) ?_ N _ ⟨by dsimp only; omega, by dsimp only; omega, by dsimp only; show (0 : Int) ≤ _; omega⟩ (by dsimp only; omega)) ?_
    · rintro ⟨j, s⟩ ⟨h1, h2, h3⟩
      dsimp only at h1 h2 h3 ⊢
      unfold m_L_markText_b1
      refine ok.ite (fun hc => ?_) fun hc => ok.some (by dsimp only; omega)
      refine ok.remM (by omega) fun x hx => ok.chk (by omega) ?_
      have hs : (b2s [i2b (48 + x)]).size + s.size ≤ 9223372036854775807 := by rw [b2s_one]; omega
      refine ok.eq (addS_eq hs) (ok.quoM (by omega) fun y hy => ok.some ?_)
      have hsz : ((b2s [i2b (48 + x)] ++ s).size : Int) = 1 + s.size := by rw [ByteArray.size_append, b2s_one]; omega
      have hlt : y < j := by rw [hy.1]; omega
      exact ⟨⟨by dsimp only; omega, by dsimp only; omega, by dsimp only; rw [hsz]; omega⟩, by dsimp only; omega⟩
    · intro e he
      unfold m_L_markText_k1
      have hs : (ByteArray.mk #[109]).size + e.size ≤ 9223372036854775807 := by
        have : (ByteArray.mk #[109]).size = 1 := rfl
        omega
      exact ok.eq (addS_eq hs) (ok.some trivial)
  obtain ⟨r, e, _⟩ := h
  unfold mT; rw [e]; rfl
end V
end Go.Proofs.Ytmnjnkcooofgjaa
namespace Go.Proofs.Ytmnjnkcooofgjaa
namespace V
open Enc (enc)
set_option linter.unusedVariables false
set_option linter.unusedSimpArgs false
set_option maxHeartbeats 4000000
set_option maxRecDepth 100000
open Go.RowKit
attribute [local irreducible] thA inA FinA eL
structure L_Slot where
  live : Bool
  data : ByteArray
deriving DecidableEq
instance : Enc L_Slot := ⟨fun x => [.v (.bool x.live), .v (.string x.data)], 2, fun _ => rfl⟩
structure L_Page where
  slots : List L_Slot
deriving DecidableEq
instance : Enc L_Page := ⟨fun x => [.sl x.slots.length (eL x.slots)], 1, fun _ => rfl⟩
def m_L_szSlot (N : Nat) (p_a : L_Slot) (p_left : Int) : Option (Int) :=
  (chk (p_left - (p_a.data.size : Int))).bind fun n1 =>
  cond (decide (n1 < (0 : Int)))
    (some (-1 : Int))
    (some n1)
theorem w_L_szSlot (N : Nat) (p_a : L_Slot) (p_left : Int) (r : Int) (hh0 : m_L_szSlot N p_a p_left = some r) : FnX Try.prog 57 [] [.agg [bA p_a.live, sA p_a.data], iA p_left] (RE (iA r) []) := by
  unfold m_L_szSlot at hh0; refine FnX.mk Try.func57 rfl rfl ?_; intro s hs; refine PC.seq ?_; refine PC.region ?_; refine PL.ef rfl (Ef.box rfl rfl rfl) ?_; refine PL.nm (.op 0 0) [some ⟨.mx [bA p_a.live, sA p_a.data], 85, 0⟩] rfl rfl ?_; refine PL.op rfl (Rd.asnT rfl) ?_; refine PL.nil ?_; refine thA_n ?_; refine PC.seq ?_; obtain ⟨n1, h_2, hh0⟩ := bind_some hh0; refine PC.region ?_; refine PL.op rfl (Rd.moveT rfl) ?_; refine PL.op rfl (Rd.fieldO rfl rfl) ?_; refine PL.op rfl (Rd.loadO rfl rfl rfl) ?_; refine PL.op rfl (Rd.lenSt rfl) ?_; refine PL.op rfl (Rd.subM rfl rfl h_2) ?_; refine PL.op rfl (Rd.asnT rfl) ?_; refine PL.nil ?_; refine thA_n ?_; (iterate 2 refine PC.seq ?_); refine PC.region ?_; refine PL.op rfl (Rd.moveT rfl) ?_; refine PL.op rfl (Rd.lss rfl rfl) ?_; refine PL.nil ?_; refine thA_n ?_; rcases cond_some hh0 with ⟨h_3, hh0⟩ | ⟨h_3, hh0⟩
  · refine PC.cond_true rfl h_3 ?_; refine PC.seq ?_; refine PC.region ?_; refine PL.op rfl (Rd.asnT rfl) ?_; refine PL.nil ?_; refine thA_n ?_; refine PC.ret ?_; refine thA_r ?_; obtain rfl := some_in hh0; exact FinA.mk (r := iA (-1 : Int)) (bl := []) [] (.inl rfl) rfl (rl := [.tmp 4]) (.tmp .nil) rfl rfl rfl (.t _) trivial ⟨rfl, rfl⟩
  refine PC.cond_false rfl h_3 ?_; refine PC.skip ?_; refine thA_n ?_; refine PC.seq ?_; refine PC.region ?_; refine PL.op rfl (Rd.moveT rfl) ?_; refine PL.op rfl (Rd.asnT rfl) ?_; refine PL.nil ?_; refine thA_n ?_; refine PC.ret ?_; obtain rfl := some_in hh0; exact FinA.mk (r := iA n1) (bl := []) [] (.inl rfl) rfl (rl := [.tmp 4]) (.tmp .nil) rfl rfl rfl (.t _) trivial ⟨rfl, rfl⟩
def m_L_szSlotS_k1 (N : Nat) (left14 : Int) : Option (Int) :=
  some left14
def m_L_szSlotS_b1 (N : Nat) (p_a : (List L_Slot)) (left4 : Int) (i5 : Int) : Option ((Int × Int) ⊕ (Int ⊕ Int)) :=
  cond (decide (i5 < (p_a.length : Int)))
    ((ixI p_a i5).bind fun x21 =>
    (m_L_szSlot N x21 left4).bind fun r23 =>
    cond (decide (r23 < (0 : Int)))
      (some (.inr (.inr (-1 : Int))))
      ((chk (i5 + (1 : Int))).bind fun n26 =>
      some (.inl (r23, n26))))
    (some (.inr (.inl left4)))
def m_L_szSlotS (N : Nat) (p_a : (List L_Slot)) (p_left : Int) : Option (Int) :=
  (chk (p_left - (p_a.length : Int))).bind fun n1 =>
  cond (decide (n1 < (0 : Int)))
    (some (-1 : Int))
    ((loopM (β := Int ⊕ Int) (fun s : Int × Int => m_L_szSlotS_b1 N p_a s.1 s.2) N (n1, (0 : Int))).bind fun o => match o with
    | .inl e =>
      m_L_szSlotS_k1 N e
    | .inr v =>
      some v)
theorem w_L_szSlotS (N : Nat) (p_a : (List L_Slot)) (p_left : Int) (r : Int) (hh0 : m_L_szSlotS N p_a p_left = some r) : FnX Try.prog 50 [] [sL p_a, iA p_left] (RE (iA r) []) := by
  unfold m_L_szSlotS at hh0; refine FnX.mk Try.func50 rfl rfl ?_; intro s hs; refine PC.seq ?_; refine PC.region ?_; refine PL.op rfl (Rd.asnT rfl) ?_; refine PL.nil ?_; refine thA_n ?_; refine PC.seq ?_; obtain ⟨n1, h_2, hh0⟩ := bind_some hh0; refine PC.region ?_; (iterate 2 refine PL.op rfl (Rd.moveT rfl) ?_); refine PL.op rfl (Rd.lenT rfl) ?_; refine PL.op rfl (Rd.subM rfl rfl h_2) ?_; refine PL.op rfl (Rd.asnT rfl) ?_; refine PL.nil ?_; refine thA_n ?_; (iterate 2 refine PC.seq ?_); refine PC.region ?_; refine PL.op rfl (Rd.moveT rfl) ?_; refine PL.op rfl (Rd.lss rfl rfl) ?_; refine PL.nil ?_; refine thA_n ?_; rcases cond_some hh0 with ⟨h_3, hh0⟩ | ⟨h_3, hh0⟩
  · refine PC.cond_true rfl h_3 ?_; refine PC.seq ?_; refine PC.region ?_; refine PL.op rfl (Rd.asnT rfl) ?_; refine PL.nil ?_; refine thA_n ?_; refine PC.ret ?_; refine thA_r ?_; obtain rfl := some_in hh0; exact FinA.mk (r := iA (-1 : Int)) (bl := []) [] (.inl rfl) rfl (rl := [.tmp 4]) (.tmp .nil) rfl rfl rfl (.t _) trivial ⟨rfl, rfl⟩
  refine PC.cond_false rfl h_3 ?_; refine PC.skip ?_; refine thA_n ?_; (iterate 2 refine PC.seq ?_); refine PC.region ?_; refine PL.op rfl (Rd.asnT rfl) ?_; refine PL.nil ?_; refine thA_n ?_; obtain ⟨o15, h_16, hh0⟩ := bind_some hh0; refine PC.cutE hs (fun x : Int => [(1, iA x)]) (fun x => []) (fun x => m_L_szSlotS_k1 N x = some r) ?_ ?_
  · refine PC.block ?_; refine PC.loop hs (fun x : Nat × (Int × Int) => [(0, sL p_a), (1, iA x.2.1), (5, iA x.2.2)]) (fun x => []) (fun x => loopM (β := Int ⊕ Int) (fun s : Int × Int => m_L_szSlotS_b1 N p_a s.1 s.2) x.1 x.2 = some o15) (fun x => x.1) (N, (n1, (0 : Int))) [] ⟨rfl, rfl, trivial, ⟨.t _, .t _, .t _, trivial⟩⟩ h_16 ?_
    rintro ⟨f17_, left4, i5⟩ h_19
    obtain ⟨f17, y18, rfl, hh1, kk1⟩ := loopM_some h_19
    replace hh1 : m_L_szSlotS_b1 N p_a left4 i5 = some y18 := hh1
    unfold m_L_szSlotS_b1 at hh1; (iterate 2 refine PC.seq ?_); refine PC.region ?_; (iterate 2 refine PL.op rfl (Rd.moveT rfl) ?_); refine PL.op rfl (Rd.lenT rfl) ?_; refine PL.op rfl (Rd.lss rfl rfl) ?_; refine PL.nil ?_; refine thA_n ?_; rcases cond_some hh1 with ⟨h_20, hh1⟩ | ⟨h_20, hh1⟩; rotate_left
    · refine PC.cond_false rfl h_20 ?_; refine PC.exit ?_; (iterate 2 refine thA_e ?_); refine inA_eq rfl ?_; refine thA_n ?_; obtain rfl := some_in hh1; obtain rfl : (.inl left4 : Int ⊕ Int) = o15 := kk1; exact ⟨left4, hh0, [], ⟨rfl, rfl, trivial, ⟨.t _, trivial⟩⟩⟩
    refine PC.cond_true rfl h_20 ?_; refine PC.skip ?_; refine thA_n ?_; refine PC.seq ?_; refine PC.block ?_; refine PC.seq ?_; obtain ⟨x21, h_22, hh1⟩ := bind_some hh1; obtain ⟨r23, h_24, hh1⟩ := bind_some hh1; refine PC.region ?_; (iterate 2 refine PL.op rfl (Rd.moveT rfl) ?_); refine PL.op rfl (Rd.ixM rfl rfl h_22) ?_; refine PL.op rfl (Rd.elMR rfl h_22 rfl rfl) ?_; refine PL.op rfl (Rd.moveT rfl) ?_; refine PL.callM false [] (w_L_szSlot N x21 left4 r23 h_24) rfl Try.call57 rfl ⟨.aggL ⟨.t _, .t _, trivial⟩, .t _, trivial⟩ rfl trivial (fun h => by cases h) ?_; refine PL.op rfl (Rd.asnT rfl) ?_; refine PL.nil ?_; refine thA_n ?_; refine PC.seq ?_; refine PC.region ?_; refine PL.op rfl (Rd.moveT rfl) ?_; refine PL.op rfl (Rd.lss rfl rfl) ?_; refine PL.nil ?_; refine thA_n ?_; rcases cond_some hh1 with ⟨h_25, hh1⟩ | ⟨h_25, hh1⟩; rotate_left
    · refine PC.cond_false rfl h_25 ?_; refine PC.skip ?_; refine inA_n ?_; refine thA_n ?_; obtain ⟨n26, h_27, hh1⟩ := bind_some hh1; refine PC.region ?_; refine PL.op rfl (Rd.moveT rfl) ?_; refine PL.op rfl (Rd.addM rfl rfl h_27) ?_; refine PL.op rfl (Rd.asnT rfl) ?_; refine PL.nil ?_; obtain rfl := some_in hh1; refine thA_n ?_; exact ⟨(f17, (r23, n26)), Nat.lt_succ_self _, kk1, [], ⟨rfl, rfl, trivial, ⟨.t _, .t _, .t _, trivial⟩⟩⟩
    refine PC.cond_true rfl h_25 ?_; refine PC.seq ?_; refine PC.region ?_; refine PL.op rfl (Rd.asnT rfl) ?_; refine PL.nil ?_; refine thA_n ?_; refine PC.ret ?_; refine inA_r ?_; (iterate 2 refine thA_r ?_); refine inA_r ?_; refine thA_r ?_; obtain rfl := some_in hh1; obtain rfl : (.inr (-1 : Int) : Int ⊕ Int) = o15 := kk1; refine thA_r ?_; obtain rfl := some_in hh0; exact FinA.mk (r := iA (-1 : Int)) (bl := []) [] (.inl rfl) rfl (rl := [.tmp 4]) (.tmp .nil) rfl rfl rfl (.t _) trivial ⟨rfl, rfl⟩
  clear hh0
  rintro left14 hh0
  replace hh0 : m_L_szSlotS_k1 N left14 = some r := hh0
  unfold m_L_szSlotS_k1 at hh0; refine thA_n ?_; refine PC.seq ?_; refine PC.region ?_; refine PL.op rfl (Rd.moveT rfl) ?_; refine PL.op rfl (Rd.asnT rfl) ?_; refine PL.nil ?_; refine thA_n ?_; refine PC.ret ?_; obtain rfl := some_in hh0; exact FinA.mk (r := iA left14) (bl := []) [] (.inl rfl) rfl (rl := [.tmp 4]) (.tmp .nil) rfl rfl rfl (.t _) trivial ⟨rfl, rfl⟩
def m_L_szPage (N : Nat) (p_a : L_Page) (p_left : Int) : Option (Int) :=
  (m_L_szSlotS N p_a.slots p_left).bind fun r1 =>
  cond (decide (r1 < (0 : Int)))
    (some (-1 : Int))
    (some r1)
theorem w_L_szPage (N : Nat) (p_a : L_Page) (p_left : Int) (r : Int) (hh0 : m_L_szPage N p_a p_left = some r) : FnX Try.prog 36 [] [.agg [sL p_a.slots], iA p_left] (RE (iA r) []) := by
  unfold m_L_szPage at hh0; refine FnX.mk Try.func36 rfl rfl ?_; intro s hs; refine PC.seq ?_; refine PC.region ?_; refine PL.ef rfl (Ef.box rfl rfl rfl) ?_; refine PL.nm (.op 0 0) [some ⟨.mx [sL p_a.slots], 65, 0⟩] rfl rfl ?_; refine PL.op rfl (Rd.asnT rfl) ?_; refine PL.nil ?_; refine thA_n ?_; refine PC.seq ?_; obtain ⟨r1, h_2, hh0⟩ := bind_some hh0; refine PC.region ?_; refine PL.op rfl (Rd.fieldO rfl rfl) ?_; refine PL.op rfl (Rd.loadO rfl rfl rfl) ?_; refine PL.op rfl (Rd.moveT rfl) ?_; refine PL.callM false [] (w_L_szSlotS N p_a.slots p_left r1 h_2) rfl Try.call50 rfl ⟨.t _, .t _, trivial⟩ rfl trivial (fun h => by cases h) ?_; refine PL.op rfl (Rd.asnT rfl) ?_; refine PL.nil ?_; refine thA_n ?_; (iterate 2 refine PC.seq ?_); refine PC.region ?_; refine PL.op rfl (Rd.moveT rfl) ?_; refine PL.op rfl (Rd.lss rfl rfl) ?_; refine PL.nil ?_; refine thA_n ?_; rcases cond_some hh0 with ⟨h_3, hh0⟩ | ⟨h_3, hh0⟩
  · refine PC.cond_true rfl h_3 ?_; refine PC.seq ?_; refine PC.region ?_; refine PL.op rfl (Rd.asnT rfl) ?_; refine PL.nil ?_; refine thA_n ?_; refine PC.ret ?_; refine thA_r ?_; obtain rfl := some_in hh0; exact FinA.mk (r := iA (-1 : Int)) (bl := []) [] (.inl rfl) rfl (rl := [.tmp 4]) (.tmp .nil) rfl rfl rfl (.t _) trivial ⟨rfl, rfl⟩
  refine PC.cond_false rfl h_3 ?_; refine PC.skip ?_; refine thA_n ?_; refine PC.seq ?_; refine PC.region ?_; refine PL.op rfl (Rd.moveT rfl) ?_; refine PL.op rfl (Rd.asnT rfl) ?_; refine PL.nil ?_; refine thA_n ?_; refine PC.ret ?_; obtain rfl := some_in hh0; exact FinA.mk (r := iA r1) (bl := []) [] (.inl rfl) rfl (rl := [.tmp 4]) (.tmp .nil) rfl rfl rfl (.t _) trivial ⟨rfl, rfl⟩
def m_L_toSlot (N : Nat) (p_a : L_Slot) : Option (I_Slot) :=
  some (I_Slot.mk p_a.live p_a.data)
theorem w_L_toSlot (N : Nat) (p_a : L_Slot) (r : I_Slot) (hh0 : m_L_toSlot N p_a = some r) : FnX Try.prog 58 [] [.agg [bA p_a.live, sA p_a.data]] (RE (.agg [bA r.live, sA r.data]) []) := by
  unfold m_L_toSlot at hh0; refine FnX.mk Try.func58 rfl rfl ?_; intro s hs; refine PC.seq ?_; refine PC.region ?_; refine PL.ef rfl (Ef.box rfl rfl rfl) ?_; refine PL.nm (.op 0 0) [some ⟨.mx [bA p_a.live, sA p_a.data], 85, 0⟩] rfl rfl ?_; refine PL.ef rfl (Ef.alloc rfl rfl) ?_; refine PL.nm (.op 1 0) [some ⟨.mx [bA p_a.live, sA p_a.data], 85, 0⟩, some ⟨.mx [bA false, sA ByteArray.empty], 70, 0⟩] rfl rfl ?_; refine PL.nil ?_; refine thA_n ?_; refine PC.seq ?_; refine PC.region ?_; refine PL.ef rfl (Ef.alloc rfl rfl) ?_; refine PL.nm (.op 2 0) [some ⟨.mx [bA p_a.live, sA p_a.data], 85, 0⟩, some ⟨.mx [bA false, sA ByteArray.empty], 70, 0⟩, some ⟨.mx [bA false, sA ByteArray.empty], 70, 0⟩] rfl rfl ?_; refine PL.nil ?_; refine thA_n ?_; refine PC.seq ?_; refine PC.region ?_; refine PL.op rfl (Rd.fieldO rfl rfl) ?_; refine PL.op rfl (Rd.loadO rfl rfl rfl) ?_; refine PL.op rfl (Rd.fieldO rfl rfl) ?_; refine PL.store rfl rfl rfl rfl rfl rfl rfl ?_; refine PL.nO [some ⟨.mx [bA p_a.live, sA p_a.data], 85, 0⟩, some ⟨.mx [bA false, sA ByteArray.empty], 70, 0⟩, some ⟨.mx [bA p_a.live, sA ByteArray.empty], 70, 0⟩] rfl ?_; refine PL.nil ?_; refine thA_n ?_; refine PC.seq ?_; refine PC.region ?_; refine PL.op rfl (Rd.fieldO rfl rfl) ?_; refine PL.op rfl (Rd.loadO rfl rfl rfl) ?_; refine PL.op rfl (Rd.fieldO rfl rfl) ?_; refine PL.store rfl rfl rfl rfl rfl rfl rfl ?_; refine PL.nO [some ⟨.mx [bA p_a.live, sA p_a.data], 85, 0⟩, some ⟨.mx [bA false, sA ByteArray.empty], 70, 0⟩, some ⟨.mx [bA p_a.live, sA p_a.data], 70, 0⟩] rfl ?_; refine PL.nil ?_; refine thA_n ?_; refine PC.seq ?_; refine PC.region ?_; refine PL.op rfl (Rd.loadBox rfl rfl rfl) ?_; refine PL.store rfl rfl rfl rfl rfl rfl rfl ?_; refine PL.nO [some ⟨.mx [bA p_a.live, sA p_a.data], 85, 0⟩, some ⟨.mx [bA p_a.live, sA p_a.data], 70, 0⟩, some ⟨.mx [bA p_a.live, sA p_a.data], 70, 0⟩] rfl ?_; refine PL.nil ?_; refine thA_n ?_; refine PC.ret ?_; obtain rfl := some_in hh0; exact FinA.mk (r := .agg [bA p_a.live, sA p_a.data]) (bl := []) [] (.inl rfl) rfl (rl := [.cell 2 70]) (.cellN rfl rfl rfl rfl .nil) rfl rfl rfl (.aggL ⟨.t _, .t _, trivial⟩) trivial ⟨rfl, rfl⟩
def m_L_toSlotS_k1 (N : Nat) (v14 : (List I_Slot)) : Option ((List I_Slot)) :=
  some v14
def m_L_toSlotS_b1 (N : Nat) (p_a : (List L_Slot)) (i3 : Int) (v4 : (List I_Slot)) : Option ((Int × (List I_Slot)) ⊕ (List I_Slot)) :=
  cond (decide (i3 < (p_a.length : Int)))
    ((ixI p_a i3).bind fun x21 =>
    (m_L_toSlot N x21).bind fun r23 =>
    (ixI v4 i3).bind fun x25 =>
    (chk (i3 + (1 : Int))).bind fun n27 =>
    some (.inl (n27, (v4.set i3.toNat r23))))
    (some (.inr v4))
def m_L_toSlotS (N : Nat) (p_a : (List L_Slot)) : Option ((List I_Slot)) :=
  (mkM 24 (I_Slot.mk false ByteArray.empty) (p_a.length : Int)).bind fun xs1 =>
  (loopM (β := (List I_Slot)) (fun s : Int × (List I_Slot) => m_L_toSlotS_b1 N p_a s.1 s.2) N ((0 : Int), xs1)).bind fun e =>
  m_L_toSlotS_k1 N e
theorem w_L_toSlotS (N : Nat) (p_a : (List L_Slot)) (r : (List I_Slot)) (hh0 : m_L_toSlotS N p_a = some r) : FnX Try.prog 52 [] [sL p_a] (RE (.os 0 0 r.length) [⟨.tr (eL r), 70, 2⟩]) := by
  unfold m_L_toSlotS at hh0; refine FnX.mk Try.func52 rfl rfl ?_; intro s hs; refine PC.seq ?_; refine PC.region ?_; refine PL.op rfl (Rd.asnT rfl) ?_; refine PL.nil ?_; refine thA_n ?_; refine PC.seq ?_; obtain ⟨xs1, h_2, hh0⟩ := bind_some hh0; refine PC.region ?_; refine PL.op rfl (Rd.moveT rfl) ?_; refine PL.op rfl (Rd.lenT rfl) ?_; refine PL.ef rfl (Ef.makeM (I_Slot.mk false ByteArray.empty) rfl rfl h_2 rfl rfl rfl (by exact ⟨.inl ⟨rfl, rfl⟩, .inl ⟨rfl, rfl⟩, trivial⟩)) ?_; refine PL.nm (.os 0 0 xs1.length) [some ⟨.tr (eL xs1), 70, 2⟩] rfl rfl ?_; refine PL.op rfl (Rd.asnO rfl) ?_; refine PL.nil ?_; refine thA_n ?_; (iterate 2 refine PC.seq ?_); refine PC.region ?_; refine PL.op rfl (Rd.asnT rfl) ?_; refine PL.nil ?_; refine thA_n ?_; obtain ⟨o15, h_16, hh0⟩ := bind_some hh0; refine PC.cutE hs (fun x : (List I_Slot) => [(3, .os 0 0 x.length)]) (fun x => [⟨.tr (eL x), 70, 2⟩]) (fun x => m_L_toSlotS_k1 N x = some r) ?_ ?_
  · refine PC.block ?_; refine PC.loop hs (fun x : Nat × (Int × (List I_Slot)) => [(0, sL p_a), (3, .os 0 0 x.2.2.length), (4, iA x.2.1)]) (fun x => [⟨.tr (eL x.2.2), 70, 2⟩]) (fun x => loopM (β := (List I_Slot)) (fun s : Int × (List I_Slot) => m_L_toSlotS_b1 N p_a s.1 s.2) x.1 x.2 = some o15) (fun x => x.1) (N, ((0 : Int), xs1)) [some 0] ⟨rfl, rfl, ⟨⟨_, rfl, rfl, rfl, .tr _⟩, trivial⟩, ⟨.t _, .os rfl, .t _, trivial⟩⟩ h_16 ?_
    rintro ⟨f17_, i3, v4⟩ h_19
    obtain ⟨f17, y18, rfl, hh1, kk1⟩ := loopM_some h_19
    replace hh1 : m_L_toSlotS_b1 N p_a i3 v4 = some y18 := hh1
    unfold m_L_toSlotS_b1 at hh1; (iterate 2 refine PC.seq ?_); refine PC.region ?_; (iterate 2 refine PL.op rfl (Rd.moveT rfl) ?_); refine PL.op rfl (Rd.lenT rfl) ?_; refine PL.op rfl (Rd.lss rfl rfl) ?_; refine PL.nil ?_; refine thA_n ?_; rcases cond_some hh1 with ⟨h_20, hh1⟩ | ⟨h_20, hh1⟩; rotate_left
    · refine PC.cond_false rfl h_20 ?_; refine PC.exit ?_; (iterate 2 refine thA_e ?_); refine inA_eq rfl ?_; refine thA_n ?_; obtain rfl := some_in hh1; obtain rfl : (v4 : (List I_Slot)) = o15 := kk1; exact ⟨v4, hh0, [some 0], ⟨rfl, rfl, ⟨⟨_, rfl, rfl, rfl, .tr _⟩, trivial⟩, ⟨.os rfl, trivial⟩⟩⟩
    refine PC.cond_true rfl h_20 ?_; refine PC.skip ?_; refine thA_n ?_; refine PC.seq ?_; refine PC.block ?_; obtain ⟨x21, h_22, hh1⟩ := bind_some hh1; obtain ⟨r23, h_24, hh1⟩ := bind_some hh1; obtain ⟨x25, h_26, hh1⟩ := bind_some hh1; refine PC.region ?_; refine PL.op rfl (Rd.moveO rfl) ?_; (iterate 3 refine PL.op rfl (Rd.moveT rfl) ?_); refine PL.op rfl (Rd.ixM rfl rfl h_22) ?_; refine PL.op rfl (Rd.elMR rfl h_22 rfl rfl) ?_; refine PL.callM false [] (w_L_toSlot N x21 r23 h_24) rfl Try.call58 rfl ⟨.aggL ⟨.t _, .t _, trivial⟩, trivial⟩ rfl trivial (fun h => by cases h) ?_; refine PL.op rfl (Rd.ixOM rfl rfl rfl (ixI_lt h_26)) ?_; refine PL.stRM r23 rfl rfl rfl rfl rfl h_26 rfl ?_; refine PL.nO [some ⟨.tr (eL (v4.set i3.toNat r23)), 70, 2⟩] rfl ?_; refine PL.nil ?_; refine inA_n ?_; refine thA_n ?_; obtain ⟨n27, h_28, hh1⟩ := bind_some hh1; refine PC.region ?_; refine PL.op rfl (Rd.moveT rfl) ?_; refine PL.op rfl (Rd.addM rfl rfl h_28) ?_; refine PL.op rfl (Rd.asnT rfl) ?_; refine PL.nil ?_; obtain rfl := some_in hh1; refine thA_n ?_; exact ⟨(f17, (n27, (v4.set i3.toNat r23))), Nat.lt_succ_self _, kk1, [some 0], ⟨rfl, rfl, ⟨⟨_, rfl, rfl, rfl, .tr _⟩, trivial⟩, ⟨.t _, .osE rfl (by simp only [List.length_set]), .t _, trivial⟩⟩⟩
  clear hh0
  rintro v14 hh0
  replace hh0 : m_L_toSlotS_k1 N v14 = some r := hh0
  unfold m_L_toSlotS_k1 at hh0; refine thA_n ?_; refine PC.seq ?_; refine PC.region ?_; refine PL.op rfl (Rd.moveO rfl) ?_; refine PL.op rfl (Rd.asnO rfl) ?_; refine PL.nil ?_; refine thA_n ?_; refine PC.ret ?_; obtain rfl := some_in hh0; exact FinA.mk (r := .os 0 0 v14.length) (bl := [⟨.tr (eL v14), 70, 2⟩]) [some 0] (.inl rfl) rfl (rl := [.tmp 2]) (.tmp .nil) rfl rfl rfl (.os rfl) ⟨⟨_, rfl, rfl, rfl, .tr _⟩, trivial⟩ ⟨rfl, rfl⟩
def m_L_toPage (N : Nat) (p_a : L_Page) : Option (I_Page) :=
  (m_L_toSlotS N p_a.slots).bind fun r1 =>
  some (I_Page.mk r1)
theorem w_L_toPage (N : Nat) (p_a : L_Page) (r : I_Page) (hh0 : m_L_toPage N p_a = some r) : FnX Try.prog 40 [] [.agg [sL p_a.slots]] (RE (.agg [.os 0 0 r.slots.length]) [⟨.tr (eL r.slots), 70, 2⟩]) := by
  unfold m_L_toPage at hh0; refine FnX.mk Try.func40 rfl rfl ?_; intro s hs; refine PC.seq ?_; refine PC.region ?_; refine PL.ef rfl (Ef.box rfl rfl rfl) ?_; refine PL.nm (.op 0 0) [some ⟨.mx [sL p_a.slots], 65, 0⟩] rfl rfl ?_; refine PL.ef rfl (Ef.alloc rfl rfl) ?_; refine PL.nm (.op 1 0) [some ⟨.mx [sL p_a.slots], 65, 0⟩, some ⟨.mx [.t (.v (.slice none 0 0))], 50, 0⟩] rfl rfl ?_; refine PL.nil ?_; refine thA_n ?_; refine PC.seq ?_; refine PC.region ?_; refine PL.ef rfl (Ef.alloc rfl rfl) ?_; refine PL.nm (.op 2 0) [some ⟨.mx [sL p_a.slots], 65, 0⟩, some ⟨.mx [.t (.v (.slice none 0 0))], 50, 0⟩, some ⟨.mx [.t (.v (.slice none 0 0))], 50, 0⟩] rfl rfl ?_; refine PL.nil ?_; refine thA_n ?_; refine PC.seq ?_; obtain ⟨r1, h_2, hh0⟩ := bind_some hh0; refine PC.region ?_; refine PL.op rfl (Rd.fieldO rfl rfl) ?_; refine PL.op rfl (Rd.loadO rfl rfl rfl) ?_; refine PL.callM false [] (w_L_toSlotS N p_a.slots r1 h_2) rfl Try.call52 rfl ⟨.t _, trivial⟩ rfl trivial (fun h => by cases h) ?_; refine PL.nm (.os 3 0 r1.length) [some ⟨.mx [sL p_a.slots], 65, 0⟩, some ⟨.mx [.t (.v (.slice none 0 0))], 50, 0⟩, some ⟨.mx [.t (.v (.slice none 0 0))], 50, 0⟩, some ⟨.tr (eL r1), 70, 2⟩] rfl rfl ?_; refine PL.op rfl (Rd.fieldO rfl rfl) ?_; refine PL.store rfl rfl rfl rfl rfl rfl rfl ?_; refine PL.nO [some ⟨.mx [sL p_a.slots], 65, 0⟩, some ⟨.mx [.t (.v (.slice none 0 0))], 50, 0⟩, some ⟨.mx [.os 3 0 r1.length], 50, 0⟩, some ⟨.tr (eL r1), 70, 2⟩] rfl ?_; refine PL.nil ?_; refine thA_n ?_; refine PC.seq ?_; refine PC.region ?_; refine PL.op rfl (Rd.loadBox rfl rfl rfl) ?_; refine PL.store rfl rfl rfl rfl rfl rfl rfl ?_; refine PL.nO [some ⟨.mx [sL p_a.slots], 65, 0⟩, some ⟨.mx [.os 3 0 r1.length], 50, 0⟩, some ⟨.mx [.os 3 0 r1.length], 50, 0⟩, some ⟨.tr (eL r1), 70, 2⟩] rfl ?_; refine PL.nil ?_; refine thA_n ?_; refine PC.ret ?_; obtain rfl := some_in hh0; exact FinA.mk (r := .agg [.os 0 0 r1.length]) (bl := [⟨.tr (eL r1), 70, 2⟩]) [some 3] (.inl rfl) rfl (rl := [.cell 2 50]) (.cellN rfl rfl rfl rfl .nil) rfl rfl rfl (.aggL ⟨.os rfl, trivial⟩) ⟨⟨_, rfl, rfl, rfl, .tr _⟩, trivial⟩ ⟨rfl, rfl⟩
def m_L_eqSlot (N : Nat) (p_a : I_Slot) (p_b : I_Slot) : Option (Bool) :=
  cond (p_a.live == p_b.live)
    (cond (p_a.data.toList == p_b.data.toList)
      (some true)
      (some false))
    (some false)
theorem w_L_eqSlot (N : Nat) (p_a : I_Slot) (p_b : I_Slot) (r : Bool) (hh0 : m_L_eqSlot N p_a p_b = some r) : FnX Try.prog 59 [] [.agg [bA p_a.live, sA p_a.data], .agg [bA p_b.live, sA p_b.data]] (RE (bA r) []) := by
  unfold m_L_eqSlot at hh0; refine FnX.mk Try.func59 rfl rfl ?_; intro s hs; refine PC.seq ?_; refine PC.region ?_; refine PL.ef rfl (Ef.box rfl rfl rfl) ?_; refine PL.nm (.op 0 0) [some ⟨.mx [bA p_a.live, sA p_a.data], 70, 0⟩] rfl rfl ?_; refine PL.ef rfl (Ef.box rfl rfl rfl) ?_; refine PL.nm (.op 1 0) [some ⟨.mx [bA p_a.live, sA p_a.data], 70, 0⟩, some ⟨.mx [bA p_b.live, sA p_b.data], 70, 0⟩] rfl rfl ?_; refine PL.op rfl (Rd.asnT rfl) ?_; refine PL.nil ?_; refine thA_n ?_; (iterate 2 refine PC.seq ?_); refine PC.region ?_; refine PL.op rfl (Rd.fieldO rfl rfl) ?_; refine PL.op rfl (Rd.loadO rfl rfl rfl) ?_; refine PL.op rfl (Rd.fieldO rfl rfl) ?_; refine PL.op rfl (Rd.loadO rfl rfl rfl) ?_; refine PL.op rfl (Rd.neqB rfl rfl) ?_; refine PL.nil ?_; refine thA_n ?_; rcases cond_some hh0 with ⟨h_1, hh0⟩ | ⟨h_1, hh0⟩; rotate_left
  · refine PC.cond_true rfl (not_f h_1) ?_; refine PC.seq ?_; refine PC.region ?_; refine PL.op rfl (Rd.asnT rfl) ?_; refine PL.nil ?_; refine thA_n ?_; refine PC.ret ?_; refine thA_r ?_; obtain rfl := some_in hh0; exact FinA.mk (r := bA false) (bl := []) [] (.inl rfl) rfl (rl := [.tmp 4]) (.tmp .nil) rfl rfl rfl (.t _) trivial ⟨rfl, rfl⟩
  refine PC.cond_false rfl (not_t h_1) ?_; refine PC.skip ?_; refine thA_n ?_; (iterate 2 refine PC.seq ?_); refine PC.region ?_; refine PL.op rfl (Rd.fieldO rfl rfl) ?_; refine PL.op rfl (Rd.loadO rfl rfl rfl) ?_; refine PL.op rfl (Rd.fieldO rfl rfl) ?_; refine PL.op rfl (Rd.loadO rfl rfl rfl) ?_; refine PL.op rfl (Rd.neqS rfl rfl) ?_; refine PL.nil ?_; refine thA_n ?_; rcases cond_some hh0 with ⟨h_2, hh0⟩ | ⟨h_2, hh0⟩; rotate_left
  · refine PC.cond_true rfl (not_f h_2) ?_; refine PC.seq ?_; refine PC.region ?_; refine PL.op rfl (Rd.asnT rfl) ?_; refine PL.nil ?_; refine thA_n ?_; refine PC.ret ?_; refine thA_r ?_; obtain rfl := some_in hh0; exact FinA.mk (r := bA false) (bl := []) [] (.inl rfl) rfl (rl := [.tmp 4]) (.tmp .nil) rfl rfl rfl (.t _) trivial ⟨rfl, rfl⟩
  refine PC.cond_false rfl (not_t h_2) ?_; refine PC.skip ?_; refine thA_n ?_; refine PC.seq ?_; refine PC.region ?_; refine PL.op rfl (Rd.asnT rfl) ?_; refine PL.nil ?_; refine thA_n ?_; refine PC.ret ?_; obtain rfl := some_in hh0; exact FinA.mk (r := bA true) (bl := []) [] (.inl rfl) rfl (rl := [.tmp 4]) (.tmp .nil) rfl rfl rfl (.t _) trivial ⟨rfl, rfl⟩
def m_L_eqSlotS_k1 (N : Nat) : Option (Bool) :=
  some true
def m_L_eqSlotS_b1 (N : Nat) (p_a : (List I_Slot)) (p_b : (List I_Slot)) (i2 : Int) : Option (Int ⊕ (Unit ⊕ Bool)) :=
  cond (decide (i2 < (p_a.length : Int)))
    ((ixI p_a i2).bind fun x19 =>
    (ixI p_b i2).bind fun x21 =>
    (m_L_eqSlot N x19 x21).bind fun r23 =>
    cond r23
      ((chk (i2 + (1 : Int))).bind fun n26 =>
      some (.inl n26))
      (some (.inr (.inr false))))
    (some (.inr (.inl ())))
def m_L_eqSlotS (N : Nat) (p_a : (List I_Slot)) (p_b : (List I_Slot)) : Option (Bool) :=
  cond (decide ((p_a.length : Int) = (p_b.length : Int)))
    ((loopM (β := Unit ⊕ Bool) (fun s : Int => m_L_eqSlotS_b1 N p_a p_b s) N (0 : Int)).bind fun o => match o with
    | .inl e =>
      m_L_eqSlotS_k1 N 
    | .inr v =>
      some v)
    (some false)
theorem w_L_eqSlotS (N : Nat) (p_a : (List I_Slot)) (p_b : (List I_Slot)) (r : Bool) (hh0 : m_L_eqSlotS N p_a p_b = some r) : FnX Try.prog 55 [] [sL p_a, sL p_b] (RE (bA r) []) := by
  unfold m_L_eqSlotS at hh0; refine FnX.mk Try.func55 rfl rfl ?_; intro s hs; refine PC.seq ?_; refine PC.region ?_; refine PL.op rfl (Rd.asnT rfl) ?_; refine PL.nil ?_; refine thA_n ?_; (iterate 2 refine PC.seq ?_); refine PC.region ?_; refine PL.op rfl (Rd.moveT rfl) ?_; refine PL.op rfl (Rd.lenT rfl) ?_; refine PL.op rfl (Rd.moveT rfl) ?_; refine PL.op rfl (Rd.lenT rfl) ?_; refine PL.op rfl (Rd.neq rfl rfl) ?_; refine PL.nil ?_; refine thA_n ?_; rcases cond_some hh0 with ⟨h_1, hh0⟩ | ⟨h_1, hh0⟩; rotate_left
  · refine PC.cond_true rfl (not_f h_1) ?_; refine PC.seq ?_; refine PC.region ?_; refine PL.op rfl (Rd.asnT rfl) ?_; refine PL.nil ?_; refine thA_n ?_; refine PC.ret ?_; refine thA_r ?_; obtain rfl := some_in hh0; exact FinA.mk (r := bA false) (bl := []) [] (.inl rfl) rfl (rl := [.tmp 4]) (.tmp .nil) rfl rfl rfl (.t _) trivial ⟨rfl, rfl⟩
  refine PC.cond_false rfl (not_t h_1) ?_; refine PC.skip ?_; refine thA_n ?_; (iterate 2 refine PC.seq ?_); refine PC.region ?_; refine PL.op rfl (Rd.asnT rfl) ?_; refine PL.nil ?_; refine thA_n ?_; obtain ⟨o13, h_14, hh0⟩ := bind_some hh0; refine PC.cutE hs (fun x : Unit => []) (fun x => []) (fun x => m_L_eqSlotS_k1 N  = some r) ?_ ?_
  · refine PC.block ?_; refine PC.loop hs (fun x : Nat × (Int) => [(0, sL p_a), (1, sL p_b), (5, iA x.2)]) (fun x => []) (fun x => loopM (β := Unit ⊕ Bool) (fun s : Int => m_L_eqSlotS_b1 N p_a p_b s) x.1 x.2 = some o13) (fun x => x.1) (N, (0 : Int)) [] ⟨rfl, rfl, trivial, ⟨.t _, .t _, .t _, trivial⟩⟩ h_14 ?_
    rintro ⟨f15_, i2⟩ h_17
    obtain ⟨f15, y16, rfl, hh1, kk1⟩ := loopM_some h_17
    replace hh1 : m_L_eqSlotS_b1 N p_a p_b i2 = some y16 := hh1
    unfold m_L_eqSlotS_b1 at hh1; (iterate 2 refine PC.seq ?_); refine PC.region ?_; (iterate 2 refine PL.op rfl (Rd.moveT rfl) ?_); refine PL.op rfl (Rd.lenT rfl) ?_; refine PL.op rfl (Rd.lss rfl rfl) ?_; refine PL.nil ?_; refine thA_n ?_; rcases cond_some hh1 with ⟨h_18, hh1⟩ | ⟨h_18, hh1⟩; rotate_left
    · refine PC.cond_false rfl h_18 ?_; refine PC.exit ?_; (iterate 2 refine thA_e ?_); refine inA_eq rfl ?_; refine thA_n ?_; obtain rfl := some_in hh1; obtain rfl : (.inl () : Unit ⊕ Bool) = o13 := kk1; exact ⟨(), hh0, [], ⟨rfl, rfl, trivial, trivial⟩⟩
    refine PC.cond_true rfl h_18 ?_; refine PC.skip ?_; refine thA_n ?_; refine PC.seq ?_; refine PC.block ?_; refine PC.seq ?_; obtain ⟨x19, h_20, hh1⟩ := bind_some hh1; obtain ⟨x21, h_22, hh1⟩ := bind_some hh1; obtain ⟨r23, h_24, hh1⟩ := bind_some hh1; refine PC.any (id := 6) 10 (.seg [0, 1, 2, 3, 4, 5, 6, 7, 8, 9] .done) [] rfl (by kernel_rfl) rfl ?_; refine PT.seg ?_; (iterate 2 refine PR.op rfl (Rd.moveT rfl) ?_); refine PR.op rfl (Rd.ixM rfl rfl h_20) ?_; refine PR.op rfl (Rd.elMR rfl h_20 rfl rfl) ?_; (iterate 2 refine PR.op rfl (Rd.moveT rfl) ?_); refine PR.op rfl (Rd.ixM rfl rfl h_22) ?_; refine PR.op rfl (Rd.elMR rfl h_22 rfl rfl) ?_; refine PR.callM false [] (w_L_eqSlot N x19 x21 r23 h_24) rfl Try.call59 rfl ⟨.aggL ⟨.t _, .t _, trivial⟩, .aggL ⟨.t _, .t _, trivial⟩, trivial⟩ rfl trivial (fun h => by cases h) rfl ?_; refine PR.op rfl (Rd.unnot rfl) ?_; refine PR.nil ?_; refine PT.done ?_; refine PL.nil ?_; refine thA_n ?_; rcases cond_some hh1 with ⟨h_25, hh1⟩ | ⟨h_25, hh1⟩
    · refine PC.cond_false rfl (not_t h_25) ?_; refine PC.skip ?_; refine inA_n ?_; refine thA_n ?_; obtain ⟨n26, h_27, hh1⟩ := bind_some hh1; refine PC.region ?_; refine PL.op rfl (Rd.moveT rfl) ?_; refine PL.op rfl (Rd.addM rfl rfl h_27) ?_; refine PL.op rfl (Rd.asnT rfl) ?_; refine PL.nil ?_; obtain rfl := some_in hh1; refine thA_n ?_; exact ⟨(f15, n26), Nat.lt_succ_self _, kk1, [], ⟨rfl, rfl, trivial, ⟨.t _, .t _, .t _, trivial⟩⟩⟩
    refine PC.cond_true rfl (not_f h_25) ?_; refine PC.seq ?_; refine PC.region ?_; refine PL.op rfl (Rd.asnT rfl) ?_; refine PL.nil ?_; refine thA_n ?_; refine PC.ret ?_; refine inA_r ?_; (iterate 2 refine thA_r ?_); refine inA_r ?_; refine thA_r ?_; obtain rfl := some_in hh1; obtain rfl : (.inr false : Unit ⊕ Bool) = o13 := kk1; refine thA_r ?_; obtain rfl := some_in hh0; exact FinA.mk (r := bA false) (bl := []) [] (.inl rfl) rfl (rl := [.tmp 4]) (.tmp .nil) rfl rfl rfl (.t _) trivial ⟨rfl, rfl⟩
  clear hh0
  rintro ⟨⟩ hh0
  replace hh0 : m_L_eqSlotS_k1 N  = some r := hh0
  unfold m_L_eqSlotS_k1 at hh0; refine thA_n ?_; refine PC.seq ?_; refine PC.region ?_; refine PL.op rfl (Rd.asnT rfl) ?_; refine PL.nil ?_; refine thA_n ?_; refine PC.ret ?_; obtain rfl := some_in hh0; exact FinA.mk (r := bA true) (bl := []) [] (.inl rfl) rfl (rl := [.tmp 4]) (.tmp .nil) rfl rfl rfl (.t _) trivial ⟨rfl, rfl⟩
def m_L_eqPage (N : Nat) (p_a : I_Page) (p_b : I_Page) : Option (Bool) :=
  (m_L_eqSlotS N p_a.slots p_b.slots).bind fun r1 =>
  cond r1
    (some true)
    (some false)
theorem w_L_eqPage (N : Nat) (p_a : I_Page) (p_b : I_Page) (r : Bool) (hh0 : m_L_eqPage N p_a p_b = some r) : FnX Try.prog 44 [] [.agg [sL p_a.slots], .agg [sL p_b.slots]] (RE (bA r) []) := by
  unfold m_L_eqPage at hh0; refine FnX.mk Try.func44 rfl rfl ?_; intro s hs; refine PC.seq ?_; refine PC.region ?_; refine PL.ef rfl (Ef.box rfl rfl rfl) ?_; refine PL.nm (.op 0 0) [some ⟨.mx [sL p_a.slots], 50, 0⟩] rfl rfl ?_; refine PL.ef rfl (Ef.box rfl rfl rfl) ?_; refine PL.nm (.op 1 0) [some ⟨.mx [sL p_a.slots], 50, 0⟩, some ⟨.mx [sL p_b.slots], 50, 0⟩] rfl rfl ?_; refine PL.op rfl (Rd.asnT rfl) ?_; refine PL.nil ?_; refine thA_n ?_; (iterate 2 refine PC.seq ?_); obtain ⟨r1, h_2, hh0⟩ := bind_some hh0; refine PC.region ?_; refine PL.op rfl (Rd.fieldO rfl rfl) ?_; refine PL.op rfl (Rd.loadO rfl rfl rfl) ?_; refine PL.op rfl (Rd.fieldO rfl rfl) ?_; refine PL.op rfl (Rd.loadO rfl rfl rfl) ?_; refine PL.callM false [] (w_L_eqSlotS N p_a.slots p_b.slots r1 h_2) rfl Try.call55 rfl ⟨.t _, .t _, trivial⟩ rfl trivial (fun h => by cases h) ?_; refine PL.op rfl (Rd.unnot rfl) ?_; refine PL.nil ?_; refine thA_n ?_; rcases cond_some hh0 with ⟨h_3, hh0⟩ | ⟨h_3, hh0⟩; rotate_left
  · refine PC.cond_true rfl (not_f h_3) ?_; refine PC.seq ?_; refine PC.region ?_; refine PL.op rfl (Rd.asnT rfl) ?_; refine PL.nil ?_; refine thA_n ?_; refine PC.ret ?_; refine thA_r ?_; obtain rfl := some_in hh0; exact FinA.mk (r := bA false) (bl := []) [] (.inl rfl) rfl (rl := [.tmp 4]) (.tmp .nil) rfl rfl rfl (.t _) trivial ⟨rfl, rfl⟩
  refine PC.cond_false rfl (not_t h_3) ?_; refine PC.skip ?_; refine thA_n ?_; refine PC.seq ?_; refine PC.region ?_; refine PL.op rfl (Rd.asnT rfl) ?_; refine PL.nil ?_; refine thA_n ?_; refine PC.ret ?_; obtain rfl := some_in hh0; exact FinA.mk (r := bA true) (bl := []) [] (.inl rfl) rfl (rl := [.tmp 4]) (.tmp .nil) rfl rfl rfl (.t _) trivial ⟨rfl, rfl⟩
def m_L_markSlotS_k1 (N : Nat) (k17 : Int) (v18 : (List I_Slot)) : Option (Int × (List I_Slot)) :=
  some (k17, v18)
def m_L_markSlotS_b1 (N : Nat) (k1 : Int) (i2 : Int) (v3 : (List I_Slot)) : Option ((Int × Int × (List I_Slot)) ⊕ (Int × (List I_Slot))) :=
  cond (decide (i2 < (v3.length : Int)))
    ((remM k1 (3 : Int)).bind fun n25 =>
    (ixI v3 i2).bind fun x27 =>
    (chk (k1 + (1 : Int))).bind fun n29 =>
    (m_L_markText N n29).bind fun r31 =>
    (chk (n29 + (1 : Int))).bind fun n33 =>
    (chk (i2 + (1 : Int))).bind fun n35 =>
    some (.inl (n33, n35, ((v3.set i2.toNat (I_Slot.mk (decide (n25 = (0 : Int))) x27.data)).set i2.toNat (I_Slot.mk (decide (n25 = (0 : Int))) r31)))))
    (some (.inr (k1, v3)))
def m_L_markSlotS (N : Nat) (p_a : (List I_Slot)) (p_k : Int) : Option (Int × (List I_Slot)) :=
  (loopM (β := Int × (List I_Slot)) (fun s : Int × Int × (List I_Slot) => m_L_markSlotS_b1 N s.1 s.2.1 s.2.2) N (p_k, (0 : Int), p_a)).bind fun e =>
  m_L_markSlotS_k1 N e.1 e.2
theorem w_L_markSlotS (N : Nat) (p_a : (List I_Slot)) (p_k : Int) (r : Int × (List I_Slot)) (hh0 : m_L_markSlotS N p_a p_k = some r) : FnX Try.prog 45 [⟨.tr (eL p_a), 70, 2⟩] [.os 0 0 p_a.length, iA p_k] (RE (iA r.1) [⟨.tr (eL r.2), 70, 2⟩]) := by
  unfold m_L_markSlotS at hh0; refine FnX.mk Try.func45 rfl rfl ?_; intro s hs; refine PC.seq ?_; refine PC.region ?_; refine PL.op rfl (Rd.asnT rfl) ?_; refine PL.nil ?_; refine thA_n ?_; (iterate 2 refine PC.seq ?_); refine PC.region ?_; refine PL.op rfl (Rd.asnT rfl) ?_; refine PL.nil ?_; refine thA_n ?_; obtain ⟨o19, h_20, hh0⟩ := bind_some hh0; refine PC.cutE hs (fun x : Int × (List I_Slot) => [(1, iA x.1)]) (fun x => [⟨.tr (eL x.2), 70, 2⟩]) (fun x => m_L_markSlotS_k1 N x.1 x.2 = some r) ?_ ?_
  · refine PC.block ?_; refine PC.loop hs (fun x : Nat × (Int × Int × (List I_Slot)) => [(0, .os 0 0 x.2.2.2.length), (1, iA x.2.1), (5, iA x.2.2.1)]) (fun x => [⟨.tr (eL x.2.2.2), 70, 2⟩]) (fun x => loopM (β := Int × (List I_Slot)) (fun s : Int × Int × (List I_Slot) => m_L_markSlotS_b1 N s.1 s.2.1 s.2.2) x.1 x.2 = some o19) (fun x => x.1) (N, (p_k, (0 : Int), p_a)) [some 0] ⟨rfl, rfl, ⟨⟨_, rfl, rfl, rfl, .tr _⟩, trivial⟩, ⟨.os rfl, .t _, .t _, trivial⟩⟩ h_20 ?_
    rintro ⟨f21_, k1, i2, v3⟩ h_23
    obtain ⟨f21, y22, rfl, hh1, kk1⟩ := loopM_some h_23
    replace hh1 : m_L_markSlotS_b1 N k1 i2 v3 = some y22 := hh1
    unfold m_L_markSlotS_b1 at hh1; (iterate 2 refine PC.seq ?_); refine PC.region ?_; refine PL.op rfl (Rd.moveT rfl) ?_; refine PL.op rfl (Rd.moveO rfl) ?_; refine PL.op rfl (Rd.lenO rfl rfl) ?_; refine PL.op rfl (Rd.lss rfl rfl) ?_; refine PL.nil ?_; refine thA_n ?_; rcases cond_some hh1 with ⟨h_24, hh1⟩ | ⟨h_24, hh1⟩; rotate_left
    · refine PC.cond_false rfl h_24 ?_; refine PC.exit ?_; (iterate 2 refine thA_e ?_); refine inA_eq rfl ?_; refine thA_n ?_; obtain rfl := some_in hh1; obtain rfl : ((k1, v3) : Int × (List I_Slot)) = o19 := kk1; exact ⟨(k1, v3), hh0, [some 0], ⟨rfl, rfl, ⟨⟨_, rfl, rfl, rfl, .tr _⟩, trivial⟩, ⟨.t _, trivial⟩⟩⟩
    refine PC.cond_true rfl h_24 ?_; refine PC.skip ?_; refine thA_n ?_; refine PC.seq ?_; refine PC.block ?_; refine PC.seq ?_; obtain ⟨n25, h_26, hh1⟩ := bind_some hh1; obtain ⟨x27, h_28, hh1⟩ := bind_some hh1; refine PC.region ?_; refine PL.op rfl (Rd.moveO rfl) ?_; (iterate 2 refine PL.op rfl (Rd.moveT rfl) ?_); refine PL.op rfl (Rd.remM rfl rfl h_26) ?_; refine PL.op rfl (Rd.eql rfl rfl) ?_; refine PL.op rfl (Rd.ixOM rfl rfl rfl (ixI_lt h_28)) ?_; refine PL.op rfl (Rd.fieldO rfl rfl) ?_; refine PL.stFM (f := 0) (I_Slot.mk (decide (n25 = (0 : Int))) x27.data) rfl rfl rfl rfl h_28 rfl rfl ?_; refine PL.nO [some ⟨.tr (eL (v3.set i2.toNat (I_Slot.mk (decide (n25 = (0 : Int))) x27.data))), 70, 2⟩] rfl ?_; refine PL.nil ?_; refine thA_n ?_; refine PC.seq ?_; obtain ⟨n29, h_30, hh1⟩ := bind_some hh1; refine PC.region ?_; refine PL.op rfl (Rd.moveT rfl) ?_; refine PL.op rfl (Rd.addM rfl rfl h_30) ?_; refine PL.op rfl (Rd.asnT rfl) ?_; refine PL.nil ?_; refine thA_n ?_; refine PC.seq ?_; obtain ⟨r31, h_32, hh1⟩ := bind_some hh1; refine PC.region ?_; refine PL.op rfl (Rd.moveO rfl) ?_; (iterate 2 refine PL.op rfl (Rd.moveT rfl) ?_); refine PL.callM false [] (w_L_markText N n29 r31 h_32) rfl Try.call56 rfl ⟨.t _, trivial⟩ rfl trivial (fun h => by cases h) ?_; refine PL.op rfl (Rd.ixOM rfl rfl rfl (by have hq := ixI_lt (ixI_set (y := (I_Slot.mk (decide (n25 = (0 : Int))) x27.data)) h_28); simp only [List.length_set] at hq ⊢; exact hq)) ?_; refine PL.op rfl (Rd.fieldO rfl rfl) ?_; refine PL.stFM (f := 1) (I_Slot.mk (decide (n25 = (0 : Int))) r31) rfl rfl rfl rfl (ixI_set (y := (I_Slot.mk (decide (n25 = (0 : Int))) x27.data)) h_28) rfl rfl ?_; refine PL.nO [some ⟨.tr (eL ((v3.set i2.toNat (I_Slot.mk (decide (n25 = (0 : Int))) x27.data)).set i2.toNat (I_Slot.mk (decide (n25 = (0 : Int))) r31))), 70, 2⟩] rfl ?_; refine PL.nil ?_; refine thA_n ?_; obtain ⟨n33, h_34, hh1⟩ := bind_some hh1; refine PC.region ?_; refine PL.op rfl (Rd.moveT rfl) ?_; refine PL.op rfl (Rd.addM rfl rfl h_34) ?_; refine PL.op rfl (Rd.asnT rfl) ?_; refine PL.nil ?_; refine inA_n ?_; refine thA_n ?_; obtain ⟨n35, h_36, hh1⟩ := bind_some hh1; refine PC.region ?_; refine PL.op rfl (Rd.moveT rfl) ?_; refine PL.op rfl (Rd.addM rfl rfl h_36) ?_; refine PL.op rfl (Rd.asnT rfl) ?_; refine PL.nil ?_; obtain rfl := some_in hh1; refine thA_n ?_; exact ⟨(f21, (n33, n35, ((v3.set i2.toNat (I_Slot.mk (decide (n25 = (0 : Int))) x27.data)).set i2.toNat (I_Slot.mk (decide (n25 = (0 : Int))) r31)))), Nat.lt_succ_self _, kk1, [some 0], ⟨rfl, rfl, ⟨⟨_, rfl, rfl, rfl, .tr _⟩, trivial⟩, ⟨.osE rfl (by simp only [List.length_set]), .t _, .t _, trivial⟩⟩⟩
  clear hh0
  rintro ⟨k17, v18⟩ hh0
  replace hh0 : m_L_markSlotS_k1 N k17 v18 = some r := hh0
  unfold m_L_markSlotS_k1 at hh0; refine thA_n ?_; refine PC.seq ?_; refine PC.region ?_; refine PL.op rfl (Rd.moveT rfl) ?_; refine PL.op rfl (Rd.asnT rfl) ?_; refine PL.nil ?_; refine thA_n ?_; refine PC.ret ?_; obtain rfl := some_in hh0; exact FinA.mk (r := iA ((k17, v18).1)) (bl := [⟨.tr (eL ((k17, v18).2)), 70, 2⟩]) [some 0] (.inl rfl) rfl (rl := [.tmp 4]) (.tmp .nil) rfl rfl rfl (.t _) ⟨⟨_, rfl, rfl, rfl, .tr _⟩, trivial⟩ ⟨rfl, rfl⟩
def m_L_heldSlotS_k1 (N : Nat) (k20 : Int) : Option (Int) :=
  some k20
def m_L_heldSlotS_b1 (N : Nat) (p_a : (List I_Slot)) (k1 : Int) (i2 : Int) : Option ((Int × Int) ⊕ (Int ⊕ Int)) :=
  cond (decide (i2 < (p_a.length : Int)))
    ((ixI p_a i2).bind fun x27 =>
    (remM k1 (3 : Int)).bind fun n29 =>
    cond (x27.live == (decide (n29 = (0 : Int))))
      ((chk (k1 + (1 : Int))).bind fun n32 =>
      (ixI p_a i2).bind fun x34 =>
      (m_L_markText N n32).bind fun r36 =>
      cond (x34.data.toList == r36.toList)
        ((chk (n32 + (1 : Int))).bind fun n39 =>
        (chk (i2 + (1 : Int))).bind fun n41 =>
        some (.inl (n39, n41)))
        (some (.inr (.inr (-1 : Int)))))
      (some (.inr (.inr (-1 : Int)))))
    (some (.inr (.inl k1)))
def m_L_heldSlotS (N : Nat) (p_a : (List I_Slot)) (p_k : Int) : Option (Int) :=
  (loopM (β := Int ⊕ Int) (fun s : Int × Int => m_L_heldSlotS_b1 N p_a s.1 s.2) N (p_k, (0 : Int))).bind fun o => match o with
  | .inl e =>
    m_L_heldSlotS_k1 N e
  | .inr v =>
    some v
theorem w_L_heldSlotS (N : Nat) (p_a : (List I_Slot)) (p_k : Int) (r : Int) (hh0 : m_L_heldSlotS N p_a p_k = some r) : FnX Try.prog 46 [] [sL p_a, iA p_k] (RE (iA r) []) := by
  unfold m_L_heldSlotS at hh0; refine FnX.mk Try.func46 rfl rfl ?_; intro s hs; refine PC.seq ?_; refine PC.region ?_; refine PL.op rfl (Rd.asnT rfl) ?_; refine PL.nil ?_; refine thA_n ?_; (iterate 2 refine PC.seq ?_); refine PC.region ?_; refine PL.op rfl (Rd.asnT rfl) ?_; refine PL.nil ?_; refine thA_n ?_; obtain ⟨o21, h_22, hh0⟩ := bind_some hh0; refine PC.cutE hs (fun x : Int => [(1, iA x)]) (fun x => []) (fun x => m_L_heldSlotS_k1 N x = some r) ?_ ?_
  · refine PC.block ?_; refine PC.loop hs (fun x : Nat × (Int × Int) => [(0, sL p_a), (1, iA x.2.1), (5, iA x.2.2)]) (fun x => []) (fun x => loopM (β := Int ⊕ Int) (fun s : Int × Int => m_L_heldSlotS_b1 N p_a s.1 s.2) x.1 x.2 = some o21) (fun x => x.1) (N, (p_k, (0 : Int))) [] ⟨rfl, rfl, trivial, ⟨.t _, .t _, .t _, trivial⟩⟩ h_22 ?_
    rintro ⟨f23_, k1, i2⟩ h_25
    obtain ⟨f23, y24, rfl, hh1, kk1⟩ := loopM_some h_25
    replace hh1 : m_L_heldSlotS_b1 N p_a k1 i2 = some y24 := hh1
    unfold m_L_heldSlotS_b1 at hh1; (iterate 2 refine PC.seq ?_); refine PC.region ?_; (iterate 2 refine PL.op rfl (Rd.moveT rfl) ?_); refine PL.op rfl (Rd.lenT rfl) ?_; refine PL.op rfl (Rd.lss rfl rfl) ?_; refine PL.nil ?_; refine thA_n ?_; rcases cond_some hh1 with ⟨h_26, hh1⟩ | ⟨h_26, hh1⟩; rotate_left
    · refine PC.cond_false rfl h_26 ?_; refine PC.exit ?_; (iterate 2 refine thA_e ?_); refine inA_eq rfl ?_; refine thA_n ?_; obtain rfl := some_in hh1; obtain rfl : (.inl k1 : Int ⊕ Int) = o21 := kk1; exact ⟨k1, hh0, [], ⟨rfl, rfl, trivial, ⟨.t _, trivial⟩⟩⟩
    refine PC.cond_true rfl h_26 ?_; refine PC.skip ?_; refine thA_n ?_; refine PC.seq ?_; refine PC.block ?_; (iterate 2 refine PC.seq ?_); obtain ⟨x27, h_28, hh1⟩ := bind_some hh1; obtain ⟨n29, h_30, hh1⟩ := bind_some hh1; refine PC.region ?_; (iterate 2 refine PL.op rfl (Rd.moveT rfl) ?_); refine PL.op rfl (Rd.ixM rfl rfl h_28) ?_; refine PL.op rfl (Rd.fieldT rfl) ?_; refine PL.op rfl (Rd.elMF (f := 0) rfl h_28 rfl rfl) ?_; refine PL.op rfl (Rd.moveT rfl) ?_; refine PL.op rfl (Rd.remM rfl rfl h_30) ?_; refine PL.op rfl (Rd.eql rfl rfl) ?_; refine PL.op rfl (Rd.neqB rfl rfl) ?_; refine PL.nil ?_; refine thA_n ?_; rcases cond_some hh1 with ⟨h_31, hh1⟩ | ⟨h_31, hh1⟩; rotate_left
    · refine PC.cond_true rfl (not_f h_31) ?_; refine PC.seq ?_; refine PC.region ?_; refine PL.op rfl (Rd.asnT rfl) ?_; refine PL.nil ?_; refine thA_n ?_; refine PC.ret ?_; refine thA_r ?_; refine inA_r ?_; (iterate 2 refine thA_r ?_); refine inA_r ?_; refine thA_r ?_; obtain rfl := some_in hh1; obtain rfl : (.inr (-1 : Int) : Int ⊕ Int) = o21 := kk1; refine thA_r ?_; obtain rfl := some_in hh0; exact FinA.mk (r := iA (-1 : Int)) (bl := []) [] (.inl rfl) rfl (rl := [.tmp 4]) (.tmp .nil) rfl rfl rfl (.t _) trivial ⟨rfl, rfl⟩
    refine PC.cond_false rfl (not_t h_31) ?_; refine PC.skip ?_; refine thA_n ?_; refine PC.seq ?_; obtain ⟨n32, h_33, hh1⟩ := bind_some hh1; refine PC.region ?_; refine PL.op rfl (Rd.moveT rfl) ?_; refine PL.op rfl (Rd.addM rfl rfl h_33) ?_; refine PL.op rfl (Rd.asnT rfl) ?_; refine PL.nil ?_; refine thA_n ?_; (iterate 2 refine PC.seq ?_); obtain ⟨x34, h_35, hh1⟩ := bind_some hh1; obtain ⟨r36, h_37, hh1⟩ := bind_some hh1; refine PC.any (id := 7) 8 (.seg [0, 1, 2, 3, 4, 5, 6, 7] .done) [] rfl (by kernel_rfl) rfl ?_; refine PT.seg ?_; (iterate 2 refine PR.op rfl (Rd.moveT rfl) ?_); refine PR.op rfl (Rd.ixM rfl rfl h_35) ?_; refine PR.op rfl (Rd.fieldT rfl) ?_; refine PR.op rfl (Rd.elMF (f := 1) rfl h_35 rfl rfl) ?_; refine PR.op rfl (Rd.moveT rfl) ?_; refine PR.callM false [] (w_L_markText N n32 r36 h_37) rfl Try.call56 rfl ⟨.t _, trivial⟩ rfl trivial (fun h => by cases h) rfl ?_; refine PR.op rfl (Rd.neqS rfl rfl) ?_; refine PR.nil ?_; refine PT.done ?_; refine PL.nil ?_; refine thA_n ?_; rcases cond_some hh1 with ⟨h_38, hh1⟩ | ⟨h_38, hh1⟩; rotate_left
    · refine PC.cond_true rfl (not_f h_38) ?_; refine PC.seq ?_; refine PC.region ?_; refine PL.op rfl (Rd.asnT rfl) ?_; refine PL.nil ?_; refine thA_n ?_; refine PC.ret ?_; refine thA_r ?_; refine inA_r ?_; (iterate 2 refine thA_r ?_); refine inA_r ?_; refine thA_r ?_; obtain rfl := some_in hh1; obtain rfl : (.inr (-1 : Int) : Int ⊕ Int) = o21 := kk1; refine thA_r ?_; obtain rfl := some_in hh0; exact FinA.mk (r := iA (-1 : Int)) (bl := []) [] (.inl rfl) rfl (rl := [.tmp 4]) (.tmp .nil) rfl rfl rfl (.t _) trivial ⟨rfl, rfl⟩
    refine PC.cond_false rfl (not_t h_38) ?_; refine PC.skip ?_; refine thA_n ?_; obtain ⟨n39, h_40, hh1⟩ := bind_some hh1; refine PC.region ?_; refine PL.op rfl (Rd.moveT rfl) ?_; refine PL.op rfl (Rd.addM rfl rfl h_40) ?_; refine PL.op rfl (Rd.asnT rfl) ?_; refine PL.nil ?_; refine inA_n ?_; refine thA_n ?_; obtain ⟨n41, h_42, hh1⟩ := bind_some hh1; refine PC.region ?_; refine PL.op rfl (Rd.moveT rfl) ?_; refine PL.op rfl (Rd.addM rfl rfl h_42) ?_; refine PL.op rfl (Rd.asnT rfl) ?_; refine PL.nil ?_; obtain rfl := some_in hh1; refine thA_n ?_; exact ⟨(f23, (n39, n41)), Nat.lt_succ_self _, kk1, [], ⟨rfl, rfl, trivial, ⟨.t _, .t _, .t _, trivial⟩⟩⟩
  clear hh0
  rintro k20 hh0
  replace hh0 : m_L_heldSlotS_k1 N k20 = some r := hh0
  unfold m_L_heldSlotS_k1 at hh0; refine thA_n ?_; refine PC.seq ?_; refine PC.region ?_; refine PL.op rfl (Rd.moveT rfl) ?_; refine PL.op rfl (Rd.asnT rfl) ?_; refine PL.nil ?_; refine thA_n ?_; refine PC.ret ?_; obtain rfl := some_in hh0; exact FinA.mk (r := iA k20) (bl := []) [] (.inl rfl) rfl (rl := [.tmp 4]) (.tmp .nil) rfl rfl rfl (.t _) trivial ⟨rfl, rfl⟩
end V
end Go.Proofs.Ytmnjnkcooofgjaa
namespace Go.Proofs.Ytmnjnkcooofgjaa
namespace V
set_option linter.unusedVariables false
set_option linter.unusedSimpArgs false
set_option maxHeartbeats 1000000
/-- The bytes that slots use. -/
def usedP : List I_Slot → Int
  | [] => 0
  | s :: l => 2 + (s.data.size : Int) + usedP l
theorem usedP_app : ∀ (a b : List I_Slot), usedP (a ++ b) = usedP a + usedP b
  | [], b => by simp [usedP]
  | s :: a, b => by simp [usedP, usedP_app a b]; omega
theorem usedP_nonneg : ∀ l : List I_Slot, 2 * (l.length : Int) ≤ usedP l
  | [] => by simp [usedP]
  | s :: l => by have := usedP_nonneg l; simp [usedP]; omega
theorem usedP_le {l : List I_Slot} (h : ∀ s ∈ l, s.data.size ≤ 1000000000) : usedP l ≤ 1000000002 * (l.length : Int) := by
  induction l with
  | nil => simp [usedP]
  | cons s l ih =>
    have := ih fun x hx => h x (.tail _ hx)
    have := h s (.head _)
    simp [usedP]; omega
theorem usedP_take_succ {l : List I_Slot} {i : Nat} (h : i < l.length) : usedP (l.take (i + 1)) = usedP (l.take i) + (2 + (l[i].data.size : Int)) := by
  rw [List.take_add_one, List.getElem?_eq_getElem h, usedP_app]; simp [usedP]
theorem usedP_take_le (l : List I_Slot) (i : Nat) : usedP (l.take i) ≤ usedP l := by
  have h := usedP_app (l.take i) (l.drop i)
  rw [List.take_append_drop] at h
  have := usedP_nonneg (l.drop i)
  omega
theorem usedP_set {l : List I_Slot} {i : Nat} (h : i < l.length) (x : I_Slot) : usedP (l.set i x) = usedP l - (l[i].data.size : Int) + (x.data.size : Int) := by
  induction l generalizing i with
  | nil => simp at h
  | cons s l ih =>
    cases i with
    | zero => simp [usedP]; omega
    | succ i => simp [usedP, ih (by simpa using h)]; omega
/-- Slots that a machine can hold. -/
structure PB (l : List I_Slot) : Prop where
  len : l.length ≤ 4000000
  dat : ∀ s ∈ l, s.data.size ≤ 1000000000
theorem PB.used {l : List I_Slot} (h : PB l) : 0 ≤ usedP l ∧ usedP l ≤ 4000000008000000 := by
  have h1 := usedP_nonneg l
  have h2 := usedP_le h.dat
  have h3 := h.len
  omega
theorem PB.take {l : List I_Slot} (h : PB l) (i : Nat) : PB (l.take i) := ⟨by have := h.len; simp; omega, fun s hs => h.dat s (List.mem_of_mem_take hs)⟩
theorem PB.set {l : List I_Slot} (h : PB l) (i : Nat) {x : I_Slot} (hx : x.data.size ≤ 1000000000) : PB (l.set i x) := ⟨by simpa using h.len, fun s hs => by
  rcases List.mem_or_eq_of_mem_set hs with h1 | h1
  · exact h.dat s h1
  · subst h1; exact hx⟩
theorem PB.nil : PB [] := ⟨by simp, fun s h => by cases h⟩
theorem PB.snoc {l : List I_Slot} (h : PB l) (hl : l.length ≤ 3000000) {x : I_Slot} (hx : x.data.size ≤ 1000000000) : PB (l ++ [x]) := ⟨by simp; omega, fun s hs => by
  rcases List.mem_append.1 hs with h1 | h1
  · exact h.dat s h1
  · simp at h1; subst h1; exact hx⟩
/-- The last slot, if there is one, is live. -/
def lastL (l : List I_Slot) : Prop := ∀ s, l[l.length - 1]? = some s → s.live = true
/-- A page that is valid. -/
def vP (p : I_Page) : Prop := p.slots.length ≤ 8 ∧ (∀ s ∈ p.slots, s.live = false → s.data = ByteArray.empty) ∧ lastL p.slots ∧ usedP p.slots ≤ 100
noncomputable instance (p : I_Page) : Decidable (vP p) := Classical.propDecidable _
theorem inRange_eq (N : Nat) (a l h : Int) : m_S_inRange N a l h = some (decide (l ≤ a ∧ a ≤ h)) := by
  unfold m_S_inRange
  by_cases h1 : l ≤ a <;> by_cases h2 : a ≤ h <;> simp [h1, h2]
section
variable {N : Nat} (hN : 100000000 ≤ N)
include hN
theorem usedI {p : I_Page} (h : PB p.slots) : m_I_Page_used N p = some (usedP p.slots) := by
  refine ok.val ?_
  unfold m_I_Page_used
  have hu := h.used
  have hl := h.len
  refine ok.call (ok.each p.slots.length (fun i s => s = (usedP (p.slots.take i), (i : Int))) (fun b => b = usedP p.slots) ?_ ?_ N 0 _ (Nat.zero_le _) rfl (by omega)) ?_
  · rintro i _ hi rfl
    have h1 := usedP_take_succ hi
    have h2 := usedP_take_le p.slots (i + 1)
    have h3 := usedP_nonneg (p.slots.take i)
    have h4 := h.dat _ (List.getElem_mem hi)
    unfold m_I_Page_used_b1
    dsimp only
    repeat' (first | (with_reducible refine ok.some ?_) | ((with_reducible refine ok.eq (ixI_nat hi) ?_)) | (with_reducible refine ok.ite (fun hc => ?_) (fun hc => ?_)) | (with_reducible refine ok.cond (fun hc => ?_) (fun hc => ?_)) | (with_reducible refine ok.chk (by omega) ?_) | (with_reducible refine ok.bs ?_) | (with_reducible refine ok.remM (by omega) (fun _ hq => ?_)) | (with_reducible refine ok.quoM (by omega) (fun _ hq => ?_)) | (with_reducible refine ok.ix (by omega) (by omega) (fun q hq he => ?_)))
    · show _ = _
      rw [h1]; simp
    · omega
  · rintro _ rfl
    unfold m_I_Page_used_b1
    repeat' (first | (with_reducible refine ok.some ?_) | (with_reducible refine ok.iff (by omega) ?_) | (with_reducible refine ok.ite (fun hc => ?_) (fun hc => ?_)) | (with_reducible refine ok.cond (fun hc => ?_) (fun hc => ?_)) | (with_reducible refine ok.chk (by omega) ?_) | (with_reducible refine ok.bs ?_) | (with_reducible refine ok.remM (by omega) (fun _ hq => ?_)) | (with_reducible refine ok.quoM (by omega) (fun _ hq => ?_)) | (with_reducible refine ok.ix (by omega) (by omega) (fun q hq he => ?_)))
    simp
  · rintro e rfl
    exact ok.some rfl
theorem usedS {p : I_Page} (h : PB p.slots) : m_S_used N p = some (usedP p.slots) := by
  refine ok.val ?_
  unfold m_S_used
  have hu := h.used
  have hl := h.len
  refine ok.chk (by omega) ?_
  have key : ∀ i, i ≤ p.slots.length → 2 * (p.slots.length : Int) + (usedP (p.slots.take i) - 2 * (i : Int)) ≤ usedP p.slots := by
    intro i hi
    have h := usedP_app (p.slots.take i) (p.slots.drop i)
    rw [List.take_append_drop] at h
    have := usedP_nonneg (p.slots.drop i)
    simp at this; omega
  refine ok.call (ok.each p.slots.length (fun i s => s = (2 * (p.slots.length : Int) + (usedP (p.slots.take i) - 2 * (i : Int)), (i : Int))) (fun b => b = usedP p.slots) ?_ ?_ N 0 _ (Nat.zero_le _) (by simp [usedP]) (by omega)) ?_
  · rintro i _ hi rfl
    have h1 := usedP_take_succ hi
    have h2 := key (i + 1) hi
    have h3 := usedP_nonneg (p.slots.take i)
    have h4 := h.dat _ (List.getElem_mem hi)
    have h5 : (p.slots.take i).length = i := by simp; omega
    unfold m_S_used_b1
    dsimp only
    repeat' (first | (with_reducible refine ok.some ?_) | ((with_reducible refine ok.eq (ixI_nat hi) ?_)) | (with_reducible refine ok.ite (fun hc => ?_) (fun hc => ?_)) | (with_reducible refine ok.cond (fun hc => ?_) (fun hc => ?_)) | (with_reducible refine ok.chk (by omega) ?_) | (with_reducible refine ok.bs ?_) | (with_reducible refine ok.remM (by omega) (fun _ hq => ?_)) | (with_reducible refine ok.quoM (by omega) (fun _ hq => ?_)) | (with_reducible refine ok.ix (by omega) (by omega) (fun q hq he => ?_)))
    · show _ = _
      rw [h1]; simp; omega
    · omega
  · rintro _ rfl
    unfold m_S_used_b1
    repeat' (first | (with_reducible refine ok.some ?_) | (with_reducible refine ok.iff (by omega) ?_) | (with_reducible refine ok.ite (fun hc => ?_) (fun hc => ?_)) | (with_reducible refine ok.cond (fun hc => ?_) (fun hc => ?_)) | (with_reducible refine ok.chk (by omega) ?_) | (with_reducible refine ok.bs ?_) | (with_reducible refine ok.remM (by omega) (fun _ hq => ?_)) | (with_reducible refine ok.quoM (by omega) (fun _ hq => ?_)) | (with_reducible refine ok.ix (by omega) (by omega) (fun q hq he => ?_)))
    simp; omega
  · rintro e rfl
    exact ok.some rfl
theorem validPI {p : I_Page} (h : PB p.slots) : m_I_ValidPage N p = some (decide (vP p)) := by
  refine bool_eq ?_
  unfold m_I_ValidPage
  have hl := h.len
  by_cases h8 : 8 < p.slots.length
  · refine ok.ift (by omega) (ok.some ?_)
    simp [vP]; omega
  refine ok.iff (by omega) ?_
  refine ok.call (P := fun o => match o with | .inl _ => ∀ s ∈ p.slots, s.live = false → s.data = ByteArray.empty | .inr v => v = false ∧ ¬ vP p) (ok.each p.slots.length (fun i s => s = (i : Int) ∧ ∀ k (h : k < p.slots.length), k < i → p.slots[k].live = false → p.slots[k].data = ByteArray.empty) _ ?_ ?_ N 0 0 (Nat.zero_le _) ⟨rfl, fun k _ h => by omega⟩ (by omega)) ?_
  · rintro i _ hi ⟨rfl, hg⟩
    unfold m_I_ValidPage_b1
    repeat' (first | (with_reducible refine ok.some ?_) | ((with_reducible refine ok.eq (ixI_nat hi) ?_)) | (with_reducible refine ok.ite (fun hc => ?_) (fun hc => ?_)) | (with_reducible refine ok.cond (fun hc => ?_) (fun hc => ?_)) | (with_reducible refine ok.chk (by omega) ?_) | (with_reducible refine ok.bs ?_) | (with_reducible refine ok.remM (by omega) (fun _ hq => ?_)) | (with_reducible refine ok.quoM (by omega) (fun _ hq => ?_)) | (with_reducible refine ok.ix (by omega) (by omega) (fun q hq he => ?_)))
    · refine ⟨by simp, fun k h1 h2 h3 => ?_⟩
      rcases Nat.lt_succ_iff_lt_or_eq.1 h2 with h4 | h4
      · exact hg k h1 h4 h3
      · subst h4; rw [‹p.slots[k].live = true›] at h3; cases h3
    · rename_i hc
      rw [textEq] at hc
      refine ⟨by simp, fun k h1 h2 h3 => ?_⟩
      rcases Nat.lt_succ_iff_lt_or_eq.1 h2 with h4 | h4
      · exact hg k h1 h4 h3
      · subst h4; exact of_decide_eq_true hc
    · rename_i hc
      rw [textEq] at hc
      exact ⟨rfl, fun hv => of_decide_eq_false hc (hv.2.1 _ (List.getElem_mem hi) ‹_›)⟩
    · omega
  · rintro _ ⟨rfl, hg⟩
    unfold m_I_ValidPage_b1
    repeat' (first | (with_reducible refine ok.some ?_) | (with_reducible refine ok.iff (by omega) ?_) | (with_reducible refine ok.ite (fun hc => ?_) (fun hc => ?_)) | (with_reducible refine ok.cond (fun hc => ?_) (fun hc => ?_)) | (with_reducible refine ok.chk (by omega) ?_) | (with_reducible refine ok.bs ?_) | (with_reducible refine ok.remM (by omega) (fun _ hq => ?_)) | (with_reducible refine ok.quoM (by omega) (fun _ hq => ?_)) | (with_reducible refine ok.ix (by omega) (by omega) (fun q hq he => ?_)))
    intro s hs h1
    obtain ⟨k, hk, rfl⟩ := List.getElem_of_mem hs
    exact hg k hk hk h1
  · rintro (u | r) hall
    · show ok (m_I_ValidPage_k1 N p) _
      unfold m_I_ValidPage_k1
      repeat' (first | (with_reducible refine ok.some ?_) | ((with_reducible refine ok.eq (usedI hN h) ?_)) | (with_reducible refine ok.ite (fun hc => ?_) (fun hc => ?_)) | (with_reducible refine ok.cond (fun hc => ?_) (fun hc => ?_)) | (with_reducible refine ok.chk (by omega) ?_) | (with_reducible refine ok.bs ?_) | (with_reducible refine ok.remM (by omega) (fun _ hq => ?_)) | (with_reducible refine ok.quoM (by omega) (fun _ hq => ?_)) | (with_reducible refine ok.ix (by omega) (by omega) (fun q hq he => ?_)))
      · obtain rfl : q = p.slots.length - 1 := by omega
        constructor
        · intro h; exact ⟨by omega, hall, fun s hs => by rw [List.getElem?_eq_getElem hq] at hs; cases hs; exact hc, of_decide_eq_true h⟩
        · intro h; exact decide_eq_true h.2.2.2
      · obtain rfl : q = p.slots.length - 1 := by omega
        refine ⟨fun h => (by cases h), fun h => ?_⟩
        have := h.2.2.1 _ (List.getElem?_eq_getElem hq)
        rw [hc] at this; cases this
      · constructor
        · intro h; exact ⟨by omega, hall, fun s hs => by have := (List.getElem?_eq_some_iff.1 hs).1; omega, of_decide_eq_true h⟩
        · intro h; exact decide_eq_true h.2.2.2
    · exact ok.some (by simp [hall.1, hall.2])
theorem validPS {p : I_Page} (h : PB p.slots) : m_S_validPage N p = some (decide (vP p)) := by
  refine bool_eq ?_
  unfold m_S_validPage
  have hl := h.len
  refine ok.call (P := fun o => match o with | .inl _ => ∀ s ∈ p.slots, s.live = false → s.data = ByteArray.empty | .inr v => v = false ∧ ¬ vP p) (ok.each p.slots.length (fun i s => s = (i : Int) ∧ ∀ k (h : k < p.slots.length), k < i → p.slots[k].live = false → p.slots[k].data = ByteArray.empty) _ ?_ ?_ N 0 0 (Nat.zero_le _) ⟨rfl, fun k _ h => by omega⟩ (by omega)) ?_
  · rintro i _ hi ⟨rfl, hg⟩
    unfold m_S_validPage_b1
    repeat' (first | (with_reducible refine ok.some ?_) | ((with_reducible refine ok.eq (ixI_nat hi) ?_)) | (with_reducible refine ok.ite (fun hc => ?_) (fun hc => ?_)) | (with_reducible refine ok.cond (fun hc => ?_) (fun hc => ?_)) | (with_reducible refine ok.chk (by omega) ?_) | (with_reducible refine ok.bs ?_) | (with_reducible refine ok.remM (by omega) (fun _ hq => ?_)) | (with_reducible refine ok.quoM (by omega) (fun _ hq => ?_)) | (with_reducible refine ok.ix (by omega) (by omega) (fun q hq he => ?_)))
    · refine ⟨by simp, fun k h1 h2 h3 => ?_⟩
      rcases Nat.lt_succ_iff_lt_or_eq.1 h2 with h4 | h4
      · exact hg k h1 h4 h3
      · subst h4; rw [‹p.slots[k].live = true›] at h3; cases h3
    · rename_i hc
      rw [textEq] at hc
      refine ⟨by simp, fun k h1 h2 h3 => ?_⟩
      rcases Nat.lt_succ_iff_lt_or_eq.1 h2 with h4 | h4
      · exact hg k h1 h4 h3
      · subst h4; exact of_decide_eq_true hc
    · rename_i hc
      rw [textEq] at hc
      exact ⟨rfl, fun hv => of_decide_eq_false hc (hv.2.1 _ (List.getElem_mem hi) ‹_›)⟩
    · omega
  · rintro _ ⟨rfl, hg⟩
    unfold m_S_validPage_b1
    repeat' (first | (with_reducible refine ok.some ?_) | (with_reducible refine ok.iff (by omega) ?_) | (with_reducible refine ok.ite (fun hc => ?_) (fun hc => ?_)) | (with_reducible refine ok.cond (fun hc => ?_) (fun hc => ?_)) | (with_reducible refine ok.chk (by omega) ?_) | (with_reducible refine ok.bs ?_) | (with_reducible refine ok.remM (by omega) (fun _ hq => ?_)) | (with_reducible refine ok.quoM (by omega) (fun _ hq => ?_)) | (with_reducible refine ok.ix (by omega) (by omega) (fun q hq he => ?_)))
    intro s hs h1
    obtain ⟨k, hk, rfl⟩ := List.getElem_of_mem hs
    exact hg k hk hk h1
  · rintro (u | r) hall
    · show ok (m_S_validPage_k1 N p) _
      unfold m_S_validPage_k1
      repeat' (first | (with_reducible refine ok.some ?_) | ((with_reducible refine ok.eq (usedS hN h) ?_)) | (with_reducible refine ok.ite (fun hc => ?_) (fun hc => ?_)) | (with_reducible refine ok.cond (fun hc => ?_) (fun hc => ?_)) | (with_reducible refine ok.chk (by omega) ?_) | (with_reducible refine ok.bs ?_) | (with_reducible refine ok.remM (by omega) (fun _ hq => ?_)) | (with_reducible refine ok.quoM (by omega) (fun _ hq => ?_)) | (with_reducible refine ok.ix (by omega) (by omega) (fun q hq he => ?_)))
      · exact ⟨fun _ => ⟨by omega, hall, fun s hs => by have := (List.getElem?_eq_some_iff.1 hs).1; omega, by omega⟩, fun _ => rfl⟩
      · obtain rfl : q = p.slots.length - 1 := by omega
        constructor
        · intro h; exact ⟨by omega, hall, fun s hs => by rw [List.getElem?_eq_getElem hq] at hs; cases hs; exact h, by omega⟩
        · intro h; exact h.2.2.1 _ (List.getElem?_eq_getElem hq)
      · exact ⟨fun h => (by cases h), fun h => by have := h.2.2.2; omega⟩
      · exact ⟨fun h => (by cases h), fun h => by have := h.1; omega⟩
    · exact ok.some (by simp [hall.1, hall.2])
end
end V
end Go.Proofs.Ytmnjnkcooofgjaa
