/- What the rows need, part 4. No condition. -/
import Derived.Test.YtmnjnkcooofgjaaRows
import Derived.ProofKit
import Derived.Test.YtmnjnkcooofgjaaQHdC
namespace Go.Proofs.Ytmnjnkcooofgjaa
namespace V
set_option linter.unusedVariables false
set_option linter.unusedSimpArgs false
set_option maxRecDepth 100000
set_option maxHeartbeats 1000000
def toSlot (x : L_Slot) : I_Slot := ⟨x.live, x.data⟩
noncomputable def mkSlot (N : Nat) (x : I_Slot) (k : Int) : I_Slot := ⟨decide ((k) % 3 = 0), mT N (k + 1)⟩
theorem len_L_markSlotS (N : Nat) (a : List I_Slot) (k : Int) (r : Int × List I_Slot) (h : m_L_markSlotS N a k = some r) : r.2.length = a.length := by
  unfold m_L_markSlotS at h
  obtain ⟨o, h1, h2⟩ := bind_some h
  unfold m_L_markSlotS_k1 at h2
  cases h2
  refine al.loop (fun s => s.2.2.length = a.length) (fun b => b.2.length = a.length) ?_ N _ rfl _ h1
  rintro ⟨k, i, v⟩ hv
  show al (m_L_markSlotS_b1 N k i v) _
  unfold m_L_markSlotS_b1
  repeat' (first | exact al.some hv | (refine al.cond (fun _ => ?_) (fun _ => ?_)) | (refine al.bind (fun _ _ => ?_)) | (refine al.some ?_; simpa only [List.length_set] using hv))
section
variable {N : Nat} (hN : 100000000 ≤ N)
include hN
theorem toSlotS_eq {a : List L_Slot} (ha : a.length ≤ 4000000) : m_L_toSlotS N a = some (a.map toSlot) := by
  unfold m_L_toSlotS
  have hm : mkM 24 (⟨false, ByteArray.empty⟩ : I_Slot) (a.length : Int) = some (List.replicate a.length ⟨false, ByteArray.empty⟩) := by unfold mkM; rw [if_pos (by omega)]; simp
  rw [hm]
  show (loopM _ N _).bind _ = _
  rw [to_loop a toSlot (List.replicate a.length ⟨false, ByteArray.empty⟩) (by simp) (by omega)]
  · rfl
  · intro i hi v hv
    unfold m_L_toSlotS_b1 m_L_toSlot
    rw [decide_eq_true (by show (i : Int) < _; omega), cond_true, ixI_nat hi, ixI_nat (show i < v.length by omega), chk_eq (by show _ ≤ (i : Int) + 1 ∧ _; omega)]
    rfl
  · intro v
    unfold m_L_toSlotS_b1
    rw [decide_eq_false (by show ¬ (a.length : Int) < _; omega)]; rfl
omit hN in
theorem eqSlot_self (a : I_Slot) : m_L_eqSlot N a a = some true := by
  unfold m_L_eqSlot
  simp
theorem eqSlotS_self {a : List I_Slot} (ha : a.length ≤ 5000000) : m_L_eqSlotS N a a = some true := by
  unfold m_L_eqSlotS
  rw [decide_eq_true rfl, cond_true]
  have h := ok.up (body := fun s : Int => m_L_eqSlotS_b1 N a a s) a.length (fun _ => True) (fun o => o = .inl ()) (N := N) (by omega) ?_ ?_
  · obtain ⟨o, e, rfl⟩ := h; rw [e]; rfl
  · intro i hi _
    show ok (m_L_eqSlotS_b1 N a a i) _
    unfold m_L_eqSlotS_b1
    refine ok.ift (by omega) (ok.eq (ixI_nat hi) (ok.eq (ixI_nat hi) (ok.eq (eqSlot_self _) (ok.bt rfl (ok.chk (by omega) (ok.some ⟨rfl, trivial⟩))))))
  · intro _
    show ok (m_L_eqSlotS_b1 N a a _) _
    unfold m_L_eqSlotS_b1
    exact ok.iff (by omega) (ok.some rfl)
theorem markSlotS_eq {a : List I_Slot} (ha : a.length ≤ 5000000) {k0 : Int} (h0 : 1 ≤ k0 ∧ k0 ≤ 10000000) : m_L_markSlotS N a k0 = some (k0 + ((2 * a.length : Nat) : Int), mkL (mkSlot N) (fun _ => 2) a k0) := by
  unfold m_L_markSlotS
  have hc : ∀ xs : List I_Slot, cL (fun _ => 2) xs = 2 * xs.length := cL_const _ (fun _ => rfl)
  rw [mark_loop (mkSlot N) (fun _ => 2) a k0 (by omega)]
  · rw [hc]; rfl
  · intro i hi v hv hx
    obtain ⟨hi', hx⟩ := List.getElem?_eq_some_iff.1 hx
    have hb : cL (fun _ => 2) (a.take i) = 2 * i := by rw [hc, List.length_take]; omega
    simp only [hb]
    have hx' : ixI v (i : Int) = some a[i] := by rw [ixI_nat hi', hx]
    show m_L_markSlotS_b1 N (k0 + ((2 * i : Nat) : Int)) i v = _
    refine ok.val ?_
    unfold m_L_markSlotS_b1
    repeat' (first | (with_reducible refine ok.some ?_) | (with_reducible refine ok.ift (by omega) ?_) | (with_reducible refine ok.eq hx' ?_) | (with_reducible refine ok.eq (mT_eq hN (by omega) (by omega)) ?_) | (with_reducible refine ok.ite (fun hc => ?_) (fun hc => ?_)) | (with_reducible refine ok.cond (fun hc => ?_) (fun hc => ?_)) | (with_reducible refine ok.chk (by omega) ?_) | (with_reducible refine ok.bs ?_) | (with_reducible refine ok.remM (by omega) (fun _ hq => ?_)) | (with_reducible refine ok.quoM (by omega) (fun _ hq => ?_)) | (with_reducible refine ok.ix (by omega) (by omega) (fun q hq he => ?_)))
    obtain ⟨rfl, _⟩ := hq
    simp only [List.set_set, mkSlot, Int.toNat_natCast, Int.add_assoc]
    rfl
  · intro k v hv
    unfold m_L_markSlotS_b1
    rw [decide_eq_false (by show ¬ (a.length : Int) < (v.length : Int); omega)]; rfl
theorem heldSlotS_eq {a : List I_Slot} (ha : a.length ≤ 5000000) {k0 : Int} (h0 : 1 ≤ k0 ∧ k0 ≤ 10000000) : m_L_heldSlotS N (mkL (mkSlot N) (fun _ => 2) a k0) k0 = some (k0 + ((2 * a.length : Nat) : Int)) := by
  unfold m_L_heldSlotS
  have hc : ∀ xs : List I_Slot, cL (fun _ => 2) xs = 2 * xs.length := cL_const _ (fun _ => rfl)
  rw [held_loop (mkSlot N) (fun _ => 2) a k0 (by omega)]
  · rw [hc]; rfl
  · intro i hi hx
    obtain ⟨hi', hx⟩ := List.getElem?_eq_some_iff.1 hx
    have hb : cL (fun _ => 2) (a.take i) = 2 * i := by rw [hc, List.length_take]; omega
    rw [hb] at hx
    simp only [hb]
    have hx' : ixI (mkL (mkSlot N) (fun _ => 2) a k0) (i : Int) = some (mkSlot N a[i] (k0 + ((2 * i : Nat) : Int))) := by rw [ixI_nat hi', hx]
    have hl := mkL_len (mkSlot N) (fun _ => 2) a k0
    show m_L_heldSlotS_b1 N (mkL (mkSlot N) (fun _ => 2) a k0) (k0 + ((2 * i : Nat) : Int)) i = _
    refine ok.val ?_
    unfold m_L_heldSlotS_b1
    simp only [mkSlot] at hx'
    repeat' (first | (with_reducible refine ok.some ?_) | (with_reducible refine ok.ift rfl ?_) | (with_reducible refine ok.ift (by omega) ?_) | (with_reducible refine ok.eq hx' ?_) | (with_reducible refine ok.bt (by rw [hq.1]; exact beq_self_eq_true _) ?_) | (with_reducible refine ok.eq (mT_eq hN (by omega) (by omega)) ?_) | (with_reducible refine ok.bt (beq_self_eq_true _) ?_) | (with_reducible refine ok.ite (fun hc => ?_) (fun hc => ?_)) | (with_reducible refine ok.cond (fun hc => ?_) (fun hc => ?_)) | (with_reducible refine ok.chk (by omega) ?_) | (with_reducible refine ok.bs ?_) | (with_reducible refine ok.remM (by omega) (fun _ hq => ?_)) | (with_reducible refine ok.quoM (by omega) (fun _ hq => ?_)) | (with_reducible refine ok.ix (by omega) (by omega) (fun q hq he => ?_)))
    simp only [Int.add_assoc]; rfl
  · intro k
    unfold m_L_heldSlotS_b1
    have hl := mkL_len (mkSlot N) (fun _ => 2) a k0
    rw [decide_eq_false (by show ¬ (a.length : Int) < _; omega)]; rfl
end
def toPg (x : L_Page) : I_Page := ⟨x.slots.map toSlot⟩
section
variable {N : Nat} (hN : 100000000 ≤ N)
include hN
theorem toPage_eq {a : L_Page} (ha : a.slots.length ≤ 4000000) : m_L_toPage N a = some (toPg a) := by
  unfold m_L_toPage; rw [toSlotS_eq hN ha]; rfl
theorem eqPage_self {a : I_Page} (ha : a.slots.length ≤ 5000000) : m_L_eqPage N a a = some true := by
  unfold m_L_eqPage; rw [eqSlotS_self hN ha]; rfl
end
end V
end Go.Proofs.Ytmnjnkcooofgjaa
namespace Go.Proofs.Ytmnjnkcooofgjaa
namespace V
open Enc (enc)
set_option linter.unusedVariables false
set_option linter.unusedSimpArgs false
set_option maxHeartbeats 4000000
set_option maxRecDepth 100000
open Go.RowKit
attribute [local irreducible] thA inA FinA eL
structure L_Heap where
  pages : List L_Page
deriving DecidableEq
instance : Enc L_Heap := ⟨fun x => [.sl x.pages.length (eL x.pages)], 1, fun _ => rfl⟩
structure L_Rid where
  page : Int
  slot : Int
deriving DecidableEq
instance : Enc L_Rid := ⟨fun x => [.v (.int .i64 x.page), .v (.int .i64 x.slot)], 2, fun _ => rfl⟩
def m_L_szPageS_k1 (N : Nat) (left14 : Int) : Option (Int) :=
  some left14
def m_L_szPageS_b1 (N : Nat) (p_a : (List L_Page)) (left4 : Int) (i5 : Int) : Option ((Int × Int) ⊕ (Int ⊕ Int)) :=
  cond (decide (i5 < (p_a.length : Int)))
    ((ixI p_a i5).bind fun x21 =>
    (m_L_szPage N x21 left4).bind fun r23 =>
    cond (decide (r23 < (0 : Int)))
      (some (.inr (.inr (-1 : Int))))
      ((chk (i5 + (1 : Int))).bind fun n26 =>
      some (.inl (r23, n26))))
    (some (.inr (.inl left4)))
def m_L_szPageS (N : Nat) (p_a : (List L_Page)) (p_left : Int) : Option (Int) :=
  (chk (p_left - (p_a.length : Int))).bind fun n1 =>
  cond (decide (n1 < (0 : Int)))
    (some (-1 : Int))
    ((loopM (β := Int ⊕ Int) (fun s : Int × Int => m_L_szPageS_b1 N p_a s.1 s.2) N (n1, (0 : Int))).bind fun o => match o with
    | .inl e =>
      m_L_szPageS_k1 N e
    | .inr v =>
      some v)
theorem w_L_szPageS (N : Nat) (p_a : (List L_Page)) (p_left : Int) (r : Int) (hh0 : m_L_szPageS N p_a p_left = some r) : FnX Try.prog 19 [] [sL p_a, iA p_left] (RE (iA r) []) := by
  unfold m_L_szPageS at hh0; refine FnX.mk Try.func19 rfl rfl ?_; intro s hs; refine PC.seq ?_; refine PC.region ?_; refine PL.op rfl (Rd.asnT rfl) ?_; refine PL.nil ?_; refine thA_n ?_; refine PC.seq ?_; obtain ⟨n1, h_2, hh0⟩ := bind_some hh0; refine PC.region ?_; (iterate 2 refine PL.op rfl (Rd.moveT rfl) ?_); refine PL.op rfl (Rd.lenT rfl) ?_; refine PL.op rfl (Rd.subM rfl rfl h_2) ?_; refine PL.op rfl (Rd.asnT rfl) ?_; refine PL.nil ?_; refine thA_n ?_; (iterate 2 refine PC.seq ?_); refine PC.region ?_; refine PL.op rfl (Rd.moveT rfl) ?_; refine PL.op rfl (Rd.lss rfl rfl) ?_; refine PL.nil ?_; refine thA_n ?_; rcases cond_some hh0 with ⟨h_3, hh0⟩ | ⟨h_3, hh0⟩
  · refine PC.cond_true rfl h_3 ?_; refine PC.seq ?_; refine PC.region ?_; refine PL.op rfl (Rd.asnT rfl) ?_; refine PL.nil ?_; refine thA_n ?_; refine PC.ret ?_; refine thA_r ?_; obtain rfl := some_in hh0; exact FinA.mk (r := iA (-1 : Int)) (bl := []) [] (.inl rfl) rfl (rl := [.tmp 4]) (.tmp .nil) rfl rfl rfl (.t _) trivial ⟨rfl, rfl⟩
  refine PC.cond_false rfl h_3 ?_; refine PC.skip ?_; refine thA_n ?_; (iterate 2 refine PC.seq ?_); refine PC.region ?_; refine PL.op rfl (Rd.asnT rfl) ?_; refine PL.nil ?_; refine thA_n ?_; obtain ⟨o15, h_16, hh0⟩ := bind_some hh0; refine PC.cutE hs (fun x : Int => [(1, iA x)]) (fun x => []) (fun x => m_L_szPageS_k1 N x = some r) ?_ ?_
  · refine PC.block ?_; refine PC.loop hs (fun x : Nat × (Int × Int) => [(0, sL p_a), (1, iA x.2.1), (5, iA x.2.2)]) (fun x => []) (fun x => loopM (β := Int ⊕ Int) (fun s : Int × Int => m_L_szPageS_b1 N p_a s.1 s.2) x.1 x.2 = some o15) (fun x => x.1) (N, (n1, (0 : Int))) [] ⟨rfl, rfl, trivial, ⟨.t _, .t _, .t _, trivial⟩⟩ h_16 ?_
    rintro ⟨f17_, left4, i5⟩ h_19
    obtain ⟨f17, y18, rfl, hh1, kk1⟩ := loopM_some h_19
    replace hh1 : m_L_szPageS_b1 N p_a left4 i5 = some y18 := hh1
    unfold m_L_szPageS_b1 at hh1; (iterate 2 refine PC.seq ?_); refine PC.region ?_; (iterate 2 refine PL.op rfl (Rd.moveT rfl) ?_); refine PL.op rfl (Rd.lenT rfl) ?_; refine PL.op rfl (Rd.lss rfl rfl) ?_; refine PL.nil ?_; refine thA_n ?_; rcases cond_some hh1 with ⟨h_20, hh1⟩ | ⟨h_20, hh1⟩; rotate_left
    · refine PC.cond_false rfl h_20 ?_; refine PC.exit ?_; (iterate 2 refine thA_e ?_); refine inA_eq rfl ?_; refine thA_n ?_; obtain rfl := some_in hh1; obtain rfl : (.inl left4 : Int ⊕ Int) = o15 := kk1; exact ⟨left4, hh0, [], ⟨rfl, rfl, trivial, ⟨.t _, trivial⟩⟩⟩
    refine PC.cond_true rfl h_20 ?_; refine PC.skip ?_; refine thA_n ?_; refine PC.seq ?_; refine PC.block ?_; refine PC.seq ?_; obtain ⟨x21, h_22, hh1⟩ := bind_some hh1; obtain ⟨r23, h_24, hh1⟩ := bind_some hh1; refine PC.region ?_; (iterate 2 refine PL.op rfl (Rd.moveT rfl) ?_); refine PL.op rfl (Rd.ixM rfl rfl h_22) ?_; refine PL.op rfl (Rd.elMR rfl h_22 rfl rfl) ?_; refine PL.op rfl (Rd.moveT rfl) ?_; refine PL.callM false [] (w_L_szPage N x21 left4 r23 h_24) rfl Try.call36 rfl ⟨.aggL ⟨.t _, trivial⟩, .t _, trivial⟩ rfl trivial (fun h => by cases h) ?_; refine PL.op rfl (Rd.asnT rfl) ?_; refine PL.nil ?_; refine thA_n ?_; refine PC.seq ?_; refine PC.region ?_; refine PL.op rfl (Rd.moveT rfl) ?_; refine PL.op rfl (Rd.lss rfl rfl) ?_; refine PL.nil ?_; refine thA_n ?_; rcases cond_some hh1 with ⟨h_25, hh1⟩ | ⟨h_25, hh1⟩; rotate_left
    · refine PC.cond_false rfl h_25 ?_; refine PC.skip ?_; refine inA_n ?_; refine thA_n ?_; obtain ⟨n26, h_27, hh1⟩ := bind_some hh1; refine PC.region ?_; refine PL.op rfl (Rd.moveT rfl) ?_; refine PL.op rfl (Rd.addM rfl rfl h_27) ?_; refine PL.op rfl (Rd.asnT rfl) ?_; refine PL.nil ?_; obtain rfl := some_in hh1; refine thA_n ?_; exact ⟨(f17, (r23, n26)), Nat.lt_succ_self _, kk1, [], ⟨rfl, rfl, trivial, ⟨.t _, .t _, .t _, trivial⟩⟩⟩
    refine PC.cond_true rfl h_25 ?_; refine PC.seq ?_; refine PC.region ?_; refine PL.op rfl (Rd.asnT rfl) ?_; refine PL.nil ?_; refine thA_n ?_; refine PC.ret ?_; refine inA_r ?_; (iterate 2 refine thA_r ?_); refine inA_r ?_; refine thA_r ?_; obtain rfl := some_in hh1; obtain rfl : (.inr (-1 : Int) : Int ⊕ Int) = o15 := kk1; refine thA_r ?_; obtain rfl := some_in hh0; exact FinA.mk (r := iA (-1 : Int)) (bl := []) [] (.inl rfl) rfl (rl := [.tmp 4]) (.tmp .nil) rfl rfl rfl (.t _) trivial ⟨rfl, rfl⟩
  clear hh0
  rintro left14 hh0
  replace hh0 : m_L_szPageS_k1 N left14 = some r := hh0
  unfold m_L_szPageS_k1 at hh0; refine thA_n ?_; refine PC.seq ?_; refine PC.region ?_; refine PL.op rfl (Rd.moveT rfl) ?_; refine PL.op rfl (Rd.asnT rfl) ?_; refine PL.nil ?_; refine thA_n ?_; refine PC.ret ?_; obtain rfl := some_in hh0; exact FinA.mk (r := iA left14) (bl := []) [] (.inl rfl) rfl (rl := [.tmp 4]) (.tmp .nil) rfl rfl rfl (.t _) trivial ⟨rfl, rfl⟩
def m_L_szHeap (N : Nat) (p_a : L_Heap) (p_left : Int) : Option (Int) :=
  (m_L_szPageS N p_a.pages p_left).bind fun r1 =>
  cond (decide (r1 < (0 : Int)))
    (some (-1 : Int))
    (some r1)
theorem w_L_szHeap (N : Nat) (p_a : L_Heap) (p_left : Int) (r : Int) (hh0 : m_L_szHeap N p_a p_left = some r) : FnX Try.prog 6 [] [.agg [sL p_a.pages], iA p_left] (RE (iA r) []) := by
  unfold m_L_szHeap at hh0; refine FnX.mk Try.func6 rfl rfl ?_; intro s hs; refine PC.seq ?_; refine PC.region ?_; refine PL.ef rfl (Ef.box rfl rfl rfl) ?_; refine PL.nm (.op 0 0) [some ⟨.mx [sL p_a.pages], 24, 0⟩] rfl rfl ?_; refine PL.op rfl (Rd.asnT rfl) ?_; refine PL.nil ?_; refine thA_n ?_; refine PC.seq ?_; obtain ⟨r1, h_2, hh0⟩ := bind_some hh0; refine PC.region ?_; refine PL.op rfl (Rd.fieldO rfl rfl) ?_; refine PL.op rfl (Rd.loadO rfl rfl rfl) ?_; refine PL.op rfl (Rd.moveT rfl) ?_; refine PL.callM false [] (w_L_szPageS N p_a.pages p_left r1 h_2) rfl Try.call19 rfl ⟨.t _, .t _, trivial⟩ rfl trivial (fun h => by cases h) ?_; refine PL.op rfl (Rd.asnT rfl) ?_; refine PL.nil ?_; refine thA_n ?_; (iterate 2 refine PC.seq ?_); refine PC.region ?_; refine PL.op rfl (Rd.moveT rfl) ?_; refine PL.op rfl (Rd.lss rfl rfl) ?_; refine PL.nil ?_; refine thA_n ?_; rcases cond_some hh0 with ⟨h_3, hh0⟩ | ⟨h_3, hh0⟩
  · refine PC.cond_true rfl h_3 ?_; refine PC.seq ?_; refine PC.region ?_; refine PL.op rfl (Rd.asnT rfl) ?_; refine PL.nil ?_; refine thA_n ?_; refine PC.ret ?_; refine thA_r ?_; obtain rfl := some_in hh0; exact FinA.mk (r := iA (-1 : Int)) (bl := []) [] (.inl rfl) rfl (rl := [.tmp 4]) (.tmp .nil) rfl rfl rfl (.t _) trivial ⟨rfl, rfl⟩
  refine PC.cond_false rfl h_3 ?_; refine PC.skip ?_; refine thA_n ?_; refine PC.seq ?_; refine PC.region ?_; refine PL.op rfl (Rd.moveT rfl) ?_; refine PL.op rfl (Rd.asnT rfl) ?_; refine PL.nil ?_; refine thA_n ?_; refine PC.ret ?_; obtain rfl := some_in hh0; exact FinA.mk (r := iA r1) (bl := []) [] (.inl rfl) rfl (rl := [.tmp 4]) (.tmp .nil) rfl rfl rfl (.t _) trivial ⟨rfl, rfl⟩
def m_L_toPageS_k1 (N : Nat) (v14 : (List I_Page)) : Option ((List I_Page)) :=
  some v14
def m_L_toPageS_b1 (N : Nat) (p_a : (List L_Page)) (i3 : Int) (v4 : (List I_Page)) : Option ((Int × (List I_Page)) ⊕ (List I_Page)) :=
  cond (decide (i3 < (p_a.length : Int)))
    ((ixI p_a i3).bind fun x21 =>
    (m_L_toPage N x21).bind fun r23 =>
    (ixI v4 i3).bind fun x25 =>
    (chk (i3 + (1 : Int))).bind fun n27 =>
    some (.inl (n27, (v4.set i3.toNat r23))))
    (some (.inr v4))
def m_L_toPageS (N : Nat) (p_a : (List L_Page)) : Option ((List I_Page)) :=
  (mkM 24 (I_Page.mk ([] : List I_Slot)) (p_a.length : Int)).bind fun xs1 =>
  (loopM (β := (List I_Page)) (fun s : Int × (List I_Page) => m_L_toPageS_b1 N p_a s.1 s.2) N ((0 : Int), xs1)).bind fun e =>
  m_L_toPageS_k1 N e
theorem w_L_toPageS (N : Nat) (p_a : (List L_Page)) (r : (List I_Page)) (hh0 : m_L_toPageS N p_a = some r) : FnX Try.prog 24 [] [sL p_a] (RE (.os 0 0 r.length) [⟨.mx (dL 1 0 r), 50, 1⟩, ⟨.fm (fam r), 70, 2⟩]) := by
  unfold m_L_toPageS at hh0; refine FnX.mk Try.func24 rfl rfl ?_; intro s hs; refine PC.seq ?_; refine PC.region ?_; refine PL.op rfl (Rd.asnT rfl) ?_; refine PL.nil ?_; refine thA_n ?_; refine PC.seq ?_; obtain ⟨xs1, h_2, hh0⟩ := bind_some hh0; refine PC.region ?_; refine PL.op rfl (Rd.moveT rfl) ?_; refine PL.op rfl (Rd.lenT rfl) ?_; refine PL.ef rfl (Ef.makeD (I_Page.mk ([] : List I_Slot)) rfl rfl h_2 rfl rfl rfl rfl rfl) ?_; refine PL.fam0 (b := 0) (ity := 70) (ik := 2) (es := xs1) rfl (mkM_rows h_2 rfl) ?_; refine PL.nm (.os 0 0 xs1.length) [some ⟨.mx (dL 1 0 xs1), 50, 1⟩, some ⟨.fm (fam xs1), 70, 2⟩] rfl rfl ?_; refine PL.op rfl (Rd.asnO rfl) ?_; refine PL.nil ?_; refine thA_n ?_; (iterate 2 refine PC.seq ?_); refine PC.region ?_; refine PL.op rfl (Rd.asnT rfl) ?_; refine PL.nil ?_; refine thA_n ?_; obtain ⟨o15, h_16, hh0⟩ := bind_some hh0; refine PC.cutE hs (fun x : (List I_Page) => [(3, .os 0 0 x.length)]) (fun x => [⟨.mx (dL 1 0 x), 50, 1⟩, ⟨.fm (fam x), 70, 2⟩]) (fun x => m_L_toPageS_k1 N x = some r) ?_ ?_
  · refine PC.block ?_; refine PC.loop hs (fun x : Nat × (Int × (List I_Page)) => [(0, sL p_a), (3, .os 0 0 x.2.2.length), (4, iA x.2.1)]) (fun x => [⟨.mx (dL 1 0 x.2.2), 50, 1⟩, ⟨.fm (fam x.2.2), 70, 2⟩]) (fun x => loopM (β := (List I_Page)) (fun s : Int × (List I_Page) => m_L_toPageS_b1 N p_a s.1 s.2) x.1 x.2 = some o15) (fun x => x.1) (N, ((0 : Int), xs1)) [some 0, some 1] ⟨rfl, rfl, ⟨⟨_, rfl, rfl, rfl, .mx (sb_dL rfl 0 _)⟩, ⟨_, rfl, rfl, rfl, .fm _⟩, trivial⟩, ⟨.t _, .os rfl, .t _, trivial⟩⟩ h_16 ?_
    rintro ⟨f17_, i3, v4⟩ h_19
    obtain ⟨f17, y18, rfl, hh1, kk1⟩ := loopM_some h_19
    replace hh1 : m_L_toPageS_b1 N p_a i3 v4 = some y18 := hh1
    unfold m_L_toPageS_b1 at hh1; (iterate 2 refine PC.seq ?_); refine PC.region ?_; (iterate 2 refine PL.op rfl (Rd.moveT rfl) ?_); refine PL.op rfl (Rd.lenT rfl) ?_; refine PL.op rfl (Rd.lss rfl rfl) ?_; refine PL.nil ?_; refine thA_n ?_; rcases cond_some hh1 with ⟨h_20, hh1⟩ | ⟨h_20, hh1⟩; rotate_left
    · refine PC.cond_false rfl h_20 ?_; refine PC.exit ?_; (iterate 2 refine thA_e ?_); refine inA_eq rfl ?_; refine thA_n ?_; obtain rfl := some_in hh1; obtain rfl : (v4 : (List I_Page)) = o15 := kk1; exact ⟨v4, hh0, [some 0, some 1], ⟨rfl, rfl, ⟨⟨_, rfl, rfl, rfl, .mx (sb_dL rfl 0 _)⟩, ⟨_, rfl, rfl, rfl, .fm _⟩, trivial⟩, ⟨.os rfl, trivial⟩⟩⟩
    refine PC.cond_true rfl h_20 ?_; refine PC.skip ?_; refine thA_n ?_; refine PC.seq ?_; refine PC.block ?_; obtain ⟨x21, h_22, hh1⟩ := bind_some hh1; obtain ⟨r23, h_24, hh1⟩ := bind_some hh1; obtain ⟨x25, h_26, hh1⟩ := bind_some hh1; refine PC.region ?_; refine PL.op rfl (Rd.moveO rfl) ?_; (iterate 3 refine PL.op rfl (Rd.moveT rfl) ?_); refine PL.op rfl (Rd.ixM rfl rfl h_22) ?_; refine PL.op rfl (Rd.elMR rfl h_22 rfl rfl) ?_; refine PL.callM false [] (w_L_toPage N x21 r23 h_24) rfl Try.call40 rfl ⟨.aggL ⟨.t _, trivial⟩, trivial⟩ rfl trivial (fun h => by cases h) ?_; refine PL.nm (.agg [.os 2 0 r23.slots.length]) [some ⟨.mx (dL 1 0 v4), 50, 1⟩, some ⟨.fm (fam v4), 70, 2⟩, some ⟨.tr (eL r23.slots), 70, 2⟩] rfl rfl ?_; refine PL.op rfl (Rd.ixOM rfl rfl rfl (ixI_lt h_26)) ?_; refine PL.adSM hs r23 rfl rfl rfl rfl rfl rfl rfl rfl h_26 rfl rfl rfl rfl rfl rfl rfl ?_; refine PL.nO [some ⟨.mx (dL 3 0 (v4.set i3.toNat r23)), 50, 1⟩, none, none, some ⟨.fm (fam (v4.set i3.toNat r23)), 70, 2⟩] rfl ?_; refine PL.nil ?_; refine inA_n ?_; refine thA_n ?_; obtain ⟨n27, h_28, hh1⟩ := bind_some hh1; refine PC.region ?_; refine PL.op rfl (Rd.moveT rfl) ?_; refine PL.op rfl (Rd.addM rfl rfl h_28) ?_; refine PL.op rfl (Rd.asnT rfl) ?_; refine PL.nil ?_; obtain rfl := some_in hh1; refine thA_n ?_; exact ⟨(f17, (n27, (v4.set i3.toNat r23))), Nat.lt_succ_self _, kk1, [some 0, some 3], ⟨rfl, rfl, ⟨⟨_, rfl, rfl, rfl, .mx (sb_dL rfl 0 _)⟩, ⟨_, rfl, rfl, rfl, .fm _⟩, trivial⟩, ⟨.t _, .osE rfl (by simp only [List.length_set]), .t _, trivial⟩⟩⟩
  clear hh0
  rintro v14 hh0
  replace hh0 : m_L_toPageS_k1 N v14 = some r := hh0
  unfold m_L_toPageS_k1 at hh0; refine thA_n ?_; refine PC.seq ?_; refine PC.region ?_; refine PL.op rfl (Rd.moveO rfl) ?_; refine PL.op rfl (Rd.asnO rfl) ?_; refine PL.nil ?_; refine thA_n ?_; refine PC.ret ?_; obtain rfl := some_in hh0; exact FinA.mk (r := .os 0 0 v14.length) (bl := [⟨.mx (dL 1 0 v14), 50, 1⟩, ⟨.fm (fam v14), 70, 2⟩]) [some 0, some 1] (.inl rfl) rfl (rl := [.tmp 2]) (.tmp .nil) rfl rfl rfl (.os rfl) ⟨⟨_, rfl, rfl, rfl, .mx (sb_dL rfl 0 _)⟩, ⟨_, rfl, rfl, rfl, .fm _⟩, trivial⟩ ⟨rfl, rfl⟩
def m_L_toHeap (N : Nat) (p_a : L_Heap) : Option (I_Heap) :=
  (m_L_toPageS N p_a.pages).bind fun r1 =>
  some (I_Heap.mk r1)
theorem w_L_toHeap (N : Nat) (p_a : L_Heap) (r : I_Heap) (hh0 : m_L_toHeap N p_a = some r) : FnX Try.prog 8 [] [.agg [sL p_a.pages]] (RE (.agg [.os 0 0 r.pages.length]) [⟨.mx (dL 1 0 r.pages), 50, 1⟩, ⟨.fm (fam r.pages), 70, 2⟩]) := by
  unfold m_L_toHeap at hh0; refine FnX.mk Try.func8 rfl rfl ?_; intro s hs; refine PC.seq ?_; refine PC.region ?_; refine PL.ef rfl (Ef.box rfl rfl rfl) ?_; refine PL.nm (.op 0 0) [some ⟨.mx [sL p_a.pages], 24, 0⟩] rfl rfl ?_; refine PL.ef rfl (Ef.alloc rfl rfl) ?_; refine PL.nm (.op 1 0) [some ⟨.mx [sL p_a.pages], 24, 0⟩, some ⟨.mx [.t (.v (.slice none 0 0))], 30, 0⟩] rfl rfl ?_; refine PL.nil ?_; refine thA_n ?_; refine PC.seq ?_; refine PC.region ?_; refine PL.ef rfl (Ef.alloc rfl rfl) ?_; refine PL.nm (.op 2 0) [some ⟨.mx [sL p_a.pages], 24, 0⟩, some ⟨.mx [.t (.v (.slice none 0 0))], 30, 0⟩, some ⟨.mx [.t (.v (.slice none 0 0))], 30, 0⟩] rfl rfl ?_; refine PL.nil ?_; refine thA_n ?_; refine PC.seq ?_; obtain ⟨r1, h_2, hh0⟩ := bind_some hh0; refine PC.region ?_; refine PL.op rfl (Rd.fieldO rfl rfl) ?_; refine PL.op rfl (Rd.loadO rfl rfl rfl) ?_; refine PL.callM false [] (w_L_toPageS N p_a.pages r1 h_2) rfl Try.call24 rfl ⟨.t _, trivial⟩ rfl trivial (fun h => by cases h) ?_; refine PL.nm (.os 3 0 r1.length) [some ⟨.mx [sL p_a.pages], 24, 0⟩, some ⟨.mx [.t (.v (.slice none 0 0))], 30, 0⟩, some ⟨.mx [.t (.v (.slice none 0 0))], 30, 0⟩, some ⟨.mx (dL 4 0 r1), 50, 1⟩, some ⟨.fm (fam r1), 70, 2⟩] rfl (by show ([some ⟨.mx [sL p_a.pages], 24, 0⟩, some ⟨.mx [.t (.v (.slice none 0 0))], 30, 0⟩, some ⟨.mx [.t (.v (.slice none 0 0))], 30, 0⟩, some ⟨.mx (AV.renL (thet [] 3) (dL 1 0 r1)), 50, 1⟩, some ⟨.fm (fam r1), 70, 2⟩] : Obs) = _; simp only [dL_ren]; rfl) ?_; refine PL.nm (.os 3 0 r1.length) [some ⟨.mx [sL p_a.pages], 24, 0⟩, some ⟨.mx [.t (.v (.slice none 0 0))], 30, 0⟩, some ⟨.mx [.t (.v (.slice none 0 0))], 30, 0⟩, some ⟨.mx (dL 4 0 r1), 50, 1⟩, some ⟨.fm (fam r1), 70, 2⟩] rfl rfl ?_; refine PL.op rfl (Rd.fieldO rfl rfl) ?_; refine PL.store rfl rfl rfl rfl rfl rfl rfl ?_; refine PL.nO [some ⟨.mx [sL p_a.pages], 24, 0⟩, some ⟨.mx [.t (.v (.slice none 0 0))], 30, 0⟩, some ⟨.mx [.os 3 0 r1.length], 30, 0⟩, some ⟨.mx (dL 4 0 r1), 50, 1⟩, some ⟨.fm (fam r1), 70, 2⟩] rfl ?_; refine PL.nil ?_; refine thA_n ?_; refine PC.seq ?_; refine PC.region ?_; refine PL.op rfl (Rd.loadBox rfl rfl rfl) ?_; refine PL.store rfl rfl rfl rfl rfl rfl rfl ?_; refine PL.nO [some ⟨.mx [sL p_a.pages], 24, 0⟩, some ⟨.mx [.os 3 0 r1.length], 30, 0⟩, some ⟨.mx [.os 3 0 r1.length], 30, 0⟩, some ⟨.mx (dL 4 0 r1), 50, 1⟩, some ⟨.fm (fam r1), 70, 2⟩] rfl ?_; refine PL.nil ?_; refine thA_n ?_; refine PC.ret ?_; obtain rfl := some_in hh0; exact FinA.mk (r := .agg [.os 0 0 r1.length]) (bl := [⟨.mx (dL 1 0 r1), 50, 1⟩, ⟨.fm (fam r1), 70, 2⟩]) [some 3, some 4] (.inl rfl) rfl (rl := [.cell 2 30]) (.cellN rfl rfl rfl rfl .nil) rfl rfl rfl (.aggL ⟨.os rfl, trivial⟩) ⟨⟨_, rfl, rfl, rfl, .mx (sb_dL rfl 0 _)⟩, ⟨_, rfl, rfl, rfl, .fm _⟩, trivial⟩ ⟨rfl, rfl⟩
def m_L_eqPageS_k1 (N : Nat) : Option (Bool) :=
  some true
def m_L_eqPageS_b1 (N : Nat) (p_a : (List I_Page)) (p_b : (List I_Page)) (i2 : Int) : Option (Int ⊕ (Unit ⊕ Bool)) :=
  cond (decide (i2 < (p_a.length : Int)))
    ((ixI p_a i2).bind fun x19 =>
    (ixI p_b i2).bind fun x21 =>
    (m_L_eqPage N x19 x21).bind fun r23 =>
    cond r23
      ((chk (i2 + (1 : Int))).bind fun n26 =>
      some (.inl n26))
      (some (.inr (.inr false))))
    (some (.inr (.inl ())))
def m_L_eqPageS (N : Nat) (p_a : (List I_Page)) (p_b : (List I_Page)) : Option (Bool) :=
  cond (decide ((p_a.length : Int) = (p_b.length : Int)))
    ((loopM (β := Unit ⊕ Bool) (fun s : Int => m_L_eqPageS_b1 N p_a p_b s) N (0 : Int)).bind fun o => match o with
    | .inl e =>
      m_L_eqPageS_k1 N 
    | .inr v =>
      some v)
    (some false)
theorem w_L_eqPageS (N : Nat) (p_a : (List I_Page)) (p_b : (List I_Page)) (r : Bool) (hh0 : m_L_eqPageS N p_a p_b = some r) : FnX Try.prog 29 [] [sL p_a, sL p_b] (RE (bA r) []) := by
  unfold m_L_eqPageS at hh0; refine FnX.mk Try.func29 rfl rfl ?_; intro s hs; refine PC.seq ?_; refine PC.region ?_; refine PL.op rfl (Rd.asnT rfl) ?_; refine PL.nil ?_; refine thA_n ?_; (iterate 2 refine PC.seq ?_); refine PC.region ?_; refine PL.op rfl (Rd.moveT rfl) ?_; refine PL.op rfl (Rd.lenT rfl) ?_; refine PL.op rfl (Rd.moveT rfl) ?_; refine PL.op rfl (Rd.lenT rfl) ?_; refine PL.op rfl (Rd.neq rfl rfl) ?_; refine PL.nil ?_; refine thA_n ?_; rcases cond_some hh0 with ⟨h_1, hh0⟩ | ⟨h_1, hh0⟩; rotate_left
  · refine PC.cond_true rfl (not_f h_1) ?_; refine PC.seq ?_; refine PC.region ?_; refine PL.op rfl (Rd.asnT rfl) ?_; refine PL.nil ?_; refine thA_n ?_; refine PC.ret ?_; refine thA_r ?_; obtain rfl := some_in hh0; exact FinA.mk (r := bA false) (bl := []) [] (.inl rfl) rfl (rl := [.tmp 4]) (.tmp .nil) rfl rfl rfl (.t _) trivial ⟨rfl, rfl⟩
  refine PC.cond_false rfl (not_t h_1) ?_; refine PC.skip ?_; refine thA_n ?_; (iterate 2 refine PC.seq ?_); refine PC.region ?_; refine PL.op rfl (Rd.asnT rfl) ?_; refine PL.nil ?_; refine thA_n ?_; obtain ⟨o13, h_14, hh0⟩ := bind_some hh0; refine PC.cutE hs (fun x : Unit => []) (fun x => []) (fun x => m_L_eqPageS_k1 N  = some r) ?_ ?_
  · refine PC.block ?_; refine PC.loop hs (fun x : Nat × (Int) => [(0, sL p_a), (1, sL p_b), (5, iA x.2)]) (fun x => []) (fun x => loopM (β := Unit ⊕ Bool) (fun s : Int => m_L_eqPageS_b1 N p_a p_b s) x.1 x.2 = some o13) (fun x => x.1) (N, (0 : Int)) [] ⟨rfl, rfl, trivial, ⟨.t _, .t _, .t _, trivial⟩⟩ h_14 ?_
    rintro ⟨f15_, i2⟩ h_17
    obtain ⟨f15, y16, rfl, hh1, kk1⟩ := loopM_some h_17
    replace hh1 : m_L_eqPageS_b1 N p_a p_b i2 = some y16 := hh1
    unfold m_L_eqPageS_b1 at hh1; (iterate 2 refine PC.seq ?_); refine PC.region ?_; (iterate 2 refine PL.op rfl (Rd.moveT rfl) ?_); refine PL.op rfl (Rd.lenT rfl) ?_; refine PL.op rfl (Rd.lss rfl rfl) ?_; refine PL.nil ?_; refine thA_n ?_; rcases cond_some hh1 with ⟨h_18, hh1⟩ | ⟨h_18, hh1⟩; rotate_left
    · refine PC.cond_false rfl h_18 ?_; refine PC.exit ?_; (iterate 2 refine thA_e ?_); refine inA_eq rfl ?_; refine thA_n ?_; obtain rfl := some_in hh1; obtain rfl : (.inl () : Unit ⊕ Bool) = o13 := kk1; exact ⟨(), hh0, [], ⟨rfl, rfl, trivial, trivial⟩⟩
    refine PC.cond_true rfl h_18 ?_; refine PC.skip ?_; refine thA_n ?_; refine PC.seq ?_; refine PC.block ?_; refine PC.seq ?_; obtain ⟨x19, h_20, hh1⟩ := bind_some hh1; obtain ⟨x21, h_22, hh1⟩ := bind_some hh1; obtain ⟨r23, h_24, hh1⟩ := bind_some hh1; refine PC.any (id := 6) 10 (.seg [0, 1, 2, 3, 4, 5, 6, 7, 8, 9] .done) [] rfl (by kernel_rfl) rfl ?_; refine PT.seg ?_; (iterate 2 refine PR.op rfl (Rd.moveT rfl) ?_); refine PR.op rfl (Rd.ixM rfl rfl h_20) ?_; refine PR.op rfl (Rd.elMR rfl h_20 rfl rfl) ?_; (iterate 2 refine PR.op rfl (Rd.moveT rfl) ?_); refine PR.op rfl (Rd.ixM rfl rfl h_22) ?_; refine PR.op rfl (Rd.elMR rfl h_22 rfl rfl) ?_; refine PR.callM false [] (w_L_eqPage N x19 x21 r23 h_24) rfl Try.call44 rfl ⟨.aggL ⟨.t _, trivial⟩, .aggL ⟨.t _, trivial⟩, trivial⟩ rfl trivial (fun h => by cases h) rfl ?_; refine PR.op rfl (Rd.unnot rfl) ?_; refine PR.nil ?_; refine PT.done ?_; refine PL.nil ?_; refine thA_n ?_; rcases cond_some hh1 with ⟨h_25, hh1⟩ | ⟨h_25, hh1⟩
    · refine PC.cond_false rfl (not_t h_25) ?_; refine PC.skip ?_; refine inA_n ?_; refine thA_n ?_; obtain ⟨n26, h_27, hh1⟩ := bind_some hh1; refine PC.region ?_; refine PL.op rfl (Rd.moveT rfl) ?_; refine PL.op rfl (Rd.addM rfl rfl h_27) ?_; refine PL.op rfl (Rd.asnT rfl) ?_; refine PL.nil ?_; obtain rfl := some_in hh1; refine thA_n ?_; exact ⟨(f15, n26), Nat.lt_succ_self _, kk1, [], ⟨rfl, rfl, trivial, ⟨.t _, .t _, .t _, trivial⟩⟩⟩
    refine PC.cond_true rfl (not_f h_25) ?_; refine PC.seq ?_; refine PC.region ?_; refine PL.op rfl (Rd.asnT rfl) ?_; refine PL.nil ?_; refine thA_n ?_; refine PC.ret ?_; refine inA_r ?_; (iterate 2 refine thA_r ?_); refine inA_r ?_; refine thA_r ?_; obtain rfl := some_in hh1; obtain rfl : (.inr false : Unit ⊕ Bool) = o13 := kk1; refine thA_r ?_; obtain rfl := some_in hh0; exact FinA.mk (r := bA false) (bl := []) [] (.inl rfl) rfl (rl := [.tmp 4]) (.tmp .nil) rfl rfl rfl (.t _) trivial ⟨rfl, rfl⟩
  clear hh0
  rintro ⟨⟩ hh0
  replace hh0 : m_L_eqPageS_k1 N  = some r := hh0
  unfold m_L_eqPageS_k1 at hh0; refine thA_n ?_; refine PC.seq ?_; refine PC.region ?_; refine PL.op rfl (Rd.asnT rfl) ?_; refine PL.nil ?_; refine thA_n ?_; refine PC.ret ?_; obtain rfl := some_in hh0; exact FinA.mk (r := bA true) (bl := []) [] (.inl rfl) rfl (rl := [.tmp 4]) (.tmp .nil) rfl rfl rfl (.t _) trivial ⟨rfl, rfl⟩
def m_L_eqHeap (N : Nat) (p_a : I_Heap) (p_b : I_Heap) : Option (Bool) :=
  (m_L_eqPageS N p_a.pages p_b.pages).bind fun r1 =>
  cond r1
    (some true)
    (some false)
theorem w_L_eqHeap (N : Nat) (p_a : I_Heap) (p_b : I_Heap) (r : Bool) (hh0 : m_L_eqHeap N p_a p_b = some r) : FnX Try.prog 11 [] [.agg [sL p_a.pages], .agg [sL p_b.pages]] (RE (bA r) []) := by
  unfold m_L_eqHeap at hh0; refine FnX.mk Try.func11 rfl rfl ?_; intro s hs; refine PC.seq ?_; refine PC.region ?_; refine PL.ef rfl (Ef.box rfl rfl rfl) ?_; refine PL.nm (.op 0 0) [some ⟨.mx [sL p_a.pages], 30, 0⟩] rfl rfl ?_; refine PL.ef rfl (Ef.box rfl rfl rfl) ?_; refine PL.nm (.op 1 0) [some ⟨.mx [sL p_a.pages], 30, 0⟩, some ⟨.mx [sL p_b.pages], 30, 0⟩] rfl rfl ?_; refine PL.op rfl (Rd.asnT rfl) ?_; refine PL.nil ?_; refine thA_n ?_; (iterate 2 refine PC.seq ?_); obtain ⟨r1, h_2, hh0⟩ := bind_some hh0; refine PC.region ?_; refine PL.op rfl (Rd.fieldO rfl rfl) ?_; refine PL.op rfl (Rd.loadO rfl rfl rfl) ?_; refine PL.op rfl (Rd.fieldO rfl rfl) ?_; refine PL.op rfl (Rd.loadO rfl rfl rfl) ?_; refine PL.callM false [] (w_L_eqPageS N p_a.pages p_b.pages r1 h_2) rfl Try.call29 rfl ⟨.t _, .t _, trivial⟩ rfl trivial (fun h => by cases h) ?_; refine PL.op rfl (Rd.unnot rfl) ?_; refine PL.nil ?_; refine thA_n ?_; rcases cond_some hh0 with ⟨h_3, hh0⟩ | ⟨h_3, hh0⟩; rotate_left
  · refine PC.cond_true rfl (not_f h_3) ?_; refine PC.seq ?_; refine PC.region ?_; refine PL.op rfl (Rd.asnT rfl) ?_; refine PL.nil ?_; refine thA_n ?_; refine PC.ret ?_; refine thA_r ?_; obtain rfl := some_in hh0; exact FinA.mk (r := bA false) (bl := []) [] (.inl rfl) rfl (rl := [.tmp 4]) (.tmp .nil) rfl rfl rfl (.t _) trivial ⟨rfl, rfl⟩
  refine PC.cond_false rfl (not_t h_3) ?_; refine PC.skip ?_; refine thA_n ?_; refine PC.seq ?_; refine PC.region ?_; refine PL.op rfl (Rd.asnT rfl) ?_; refine PL.nil ?_; refine thA_n ?_; refine PC.ret ?_; obtain rfl := some_in hh0; exact FinA.mk (r := bA true) (bl := []) [] (.inl rfl) rfl (rl := [.tmp 4]) (.tmp .nil) rfl rfl rfl (.t _) trivial ⟨rfl, rfl⟩
def m_L_markPageS_k1 (N : Nat) (k11 : Int) (v12 : (List I_Page)) : Option (Int × (List I_Page)) :=
  some (k11, v12)
def m_L_markPageS_b1 (N : Nat) (k1 : Int) (i2 : Int) (v3 : (List I_Page)) : Option ((Int × Int × (List I_Page)) ⊕ (Int × (List I_Page))) :=
  cond (decide (i2 < (v3.length : Int)))
    ((ixI v3 i2).bind fun x19 =>
    (m_L_markSlotS N x19.slots k1).bind fun r21 =>
    (chk (i2 + (1 : Int))).bind fun n23 =>
    some (.inl (r21.1, n23, (v3.set i2.toNat (I_Page.mk r21.2)))))
    (some (.inr (k1, v3)))
def m_L_markPageS (N : Nat) (p_a : (List I_Page)) (p_k : Int) : Option (Int × (List I_Page)) :=
  (loopM (β := Int × (List I_Page)) (fun s : Int × Int × (List I_Page) => m_L_markPageS_b1 N s.1 s.2.1 s.2.2) N (p_k, (0 : Int), p_a)).bind fun e =>
  m_L_markPageS_k1 N e.1 e.2
theorem w_L_markPageS (N : Nat) (p_a : (List I_Page)) (p_k : Int) (r : Int × (List I_Page)) (hh0 : m_L_markPageS N p_a p_k = some r) : FnX Try.prog 30 [⟨.mx (dL 1 0 p_a), 50, 1⟩, ⟨.fm (fam p_a), 70, 2⟩] [.os 0 0 p_a.length, iA p_k] (RE (iA r.1) [⟨.mx (dL 1 0 r.2), 50, 1⟩, ⟨.fm (fam r.2), 70, 2⟩]) := by
  unfold m_L_markPageS at hh0; refine FnX.mk Try.func30 rfl rfl ?_; intro s hs; refine PC.seq ?_; refine PC.region ?_; refine PL.op rfl (Rd.asnT rfl) ?_; refine PL.nil ?_; refine thA_n ?_; (iterate 2 refine PC.seq ?_); refine PC.region ?_; refine PL.op rfl (Rd.asnT rfl) ?_; refine PL.nil ?_; refine thA_n ?_; obtain ⟨o13, h_14, hh0⟩ := bind_some hh0; refine PC.cutE hs (fun x : Int × (List I_Page) => [(1, iA x.1)]) (fun x => [⟨.mx (dL 1 0 x.2), 50, 1⟩, ⟨.fm (fam x.2), 70, 2⟩]) (fun x => m_L_markPageS_k1 N x.1 x.2 = some r) ?_ ?_
  · refine PC.block ?_; refine PC.loop hs (fun x : Nat × (Int × Int × (List I_Page)) => [(0, .os 0 0 x.2.2.2.length), (1, iA x.2.1), (5, iA x.2.2.1)]) (fun x => [⟨.mx (dL 1 0 x.2.2.2), 50, 1⟩, ⟨.fm (fam x.2.2.2), 70, 2⟩]) (fun x => loopM (β := Int × (List I_Page)) (fun s : Int × Int × (List I_Page) => m_L_markPageS_b1 N s.1 s.2.1 s.2.2) x.1 x.2 = some o13) (fun x => x.1) (N, (p_k, (0 : Int), p_a)) [some 0, some 1] ⟨rfl, rfl, ⟨⟨_, rfl, rfl, rfl, .mx (sb_dL rfl 0 _)⟩, ⟨_, rfl, rfl, rfl, .fm _⟩, trivial⟩, ⟨.os rfl, .t _, .t _, trivial⟩⟩ h_14 ?_
    rintro ⟨f15_, k1, i2, v3⟩ h_17
    obtain ⟨f15, y16, rfl, hh1, kk1⟩ := loopM_some h_17
    replace hh1 : m_L_markPageS_b1 N k1 i2 v3 = some y16 := hh1
    unfold m_L_markPageS_b1 at hh1; (iterate 2 refine PC.seq ?_); refine PC.region ?_; refine PL.op rfl (Rd.moveT rfl) ?_; refine PL.op rfl (Rd.moveO rfl) ?_; refine PL.op rfl (Rd.lenO rfl rfl) ?_; refine PL.op rfl (Rd.lss rfl rfl) ?_; refine PL.nil ?_; refine thA_n ?_; rcases cond_some hh1 with ⟨h_18, hh1⟩ | ⟨h_18, hh1⟩; rotate_left
    · refine PC.cond_false rfl h_18 ?_; refine PC.exit ?_; (iterate 2 refine thA_e ?_); refine inA_eq rfl ?_; refine thA_n ?_; obtain rfl := some_in hh1; obtain rfl : ((k1, v3) : Int × (List I_Page)) = o13 := kk1; exact ⟨(k1, v3), hh0, [some 0, some 1], ⟨rfl, rfl, ⟨⟨_, rfl, rfl, rfl, .mx (sb_dL rfl 0 _)⟩, ⟨_, rfl, rfl, rfl, .fm _⟩, trivial⟩, ⟨.t _, trivial⟩⟩⟩
    refine PC.cond_true rfl h_18 ?_; refine PC.skip ?_; refine thA_n ?_; refine PC.seq ?_; refine PC.block ?_; obtain ⟨x19, h_20, hh1⟩ := bind_some hh1; obtain ⟨r21, h_22, hh1⟩ := bind_some hh1; refine PC.region ?_; refine PL.op rfl (Rd.moveO rfl) ?_; refine PL.op rfl (Rd.moveT rfl) ?_; refine PL.op rfl (Rd.ixOM rfl rfl rfl (ixI_lt h_20)) ?_; refine PL.op rfl (Rd.fieldO rfl rfl) ?_; refine PL.op rfl (Rd.dpFM (q := 0) rfl rfl rfl h_20 rfl rfl) ?_; refine PL.op rfl (Rd.moveT rfl) ?_; refine PL.callOIM (b := 0) (I_Page.mk r21.2) h_20 (w_L_markSlotS N x19.slots k1 r21 h_22) rfl Try.call45 rfl rfl rfl rfl rfl rfl rfl rfl (len_L_markSlotS N _ _  _ h_22) ?_; refine PL.nm (iA r21.1) [some ⟨.mx (dL 1 0 (v3.set i2.toNat (I_Page.mk r21.2))), 50, 1⟩, some ⟨.fm (fam (v3.set i2.toNat (I_Page.mk r21.2))), 70, 2⟩] rfl rfl ?_; refine PL.op rfl (Rd.asnT rfl) ?_; refine PL.nil ?_; refine inA_n ?_; refine thA_n ?_; obtain ⟨n23, h_24, hh1⟩ := bind_some hh1; refine PC.region ?_; refine PL.op rfl (Rd.moveT rfl) ?_; refine PL.op rfl (Rd.addM rfl rfl h_24) ?_; refine PL.op rfl (Rd.asnT rfl) ?_; refine PL.nil ?_; obtain rfl := some_in hh1; refine thA_n ?_; exact ⟨(f15, (r21.1, n23, (v3.set i2.toNat (I_Page.mk r21.2)))), Nat.lt_succ_self _, kk1, [some 0, some 1], ⟨rfl, rfl, ⟨⟨_, rfl, rfl, rfl, .mx (sb_dL rfl 0 _)⟩, ⟨_, rfl, rfl, rfl, .fm _⟩, trivial⟩, ⟨.osE rfl (by simp only [List.length_set]), .t _, .t _, trivial⟩⟩⟩
  clear hh0
  rintro ⟨k11, v12⟩ hh0
  replace hh0 : m_L_markPageS_k1 N k11 v12 = some r := hh0
  unfold m_L_markPageS_k1 at hh0; refine thA_n ?_; refine PC.seq ?_; refine PC.region ?_; refine PL.op rfl (Rd.moveT rfl) ?_; refine PL.op rfl (Rd.asnT rfl) ?_; refine PL.nil ?_; refine thA_n ?_; refine PC.ret ?_; obtain rfl := some_in hh0; exact FinA.mk (r := iA ((k11, v12).1)) (bl := [⟨.mx (dL 1 0 ((k11, v12).2)), 50, 1⟩, ⟨.fm (fam ((k11, v12).2)), 70, 2⟩]) [some 0, some 1] (.inl rfl) rfl (rl := [.tmp 4]) (.tmp .nil) rfl rfl rfl (.t _) ⟨⟨_, rfl, rfl, rfl, .mx (sb_dL rfl 0 _)⟩, ⟨_, rfl, rfl, rfl, .fm _⟩, trivial⟩ ⟨rfl, rfl⟩
def m_L_markHeap (N : Nat) (p_a : I_Heap) (p_k : Int) : Option (Int × (List I_Page)) :=
  (m_L_markPageS N p_a.pages p_k).bind fun r1 =>
  some (r1.1, r1.2)
theorem w_L_markHeap (N : Nat) (p_a : I_Heap) (p_k : Int) (r : Int × (List I_Page)) (hh0 : m_L_markHeap N p_a p_k = some r) : FnX Try.prog 12 [⟨.mx (dL 1 0 p_a.pages), 50, 1⟩, ⟨.fm (fam p_a.pages), 70, 2⟩] [.agg [.os 0 0 p_a.pages.length], iA p_k] (RE (iA r.1) [⟨.mx (dL 1 0 r.2), 50, 1⟩, ⟨.fm (fam r.2), 70, 2⟩]) := by
  unfold m_L_markHeap at hh0; refine FnX.mk Try.func12 rfl rfl ?_; intro s hs; refine PC.seq ?_; refine PC.region ?_; refine PL.ef rfl (Ef.box rfl rfl rfl) ?_; refine PL.nm (.op 2 0) [some ⟨.mx (dL 1 0 p_a.pages), 50, 1⟩, some ⟨.fm (fam p_a.pages), 70, 2⟩, some ⟨.mx [.os 0 0 p_a.pages.length], 30, 0⟩] rfl rfl ?_; refine PL.op rfl (Rd.asnT rfl) ?_; refine PL.nil ?_; refine thA_n ?_; refine PC.seq ?_; obtain ⟨r1, h_2, hh0⟩ := bind_some hh0; refine PC.region ?_; refine PL.op rfl (Rd.fieldO rfl rfl) ?_; refine PL.op rfl (Rd.loadO rfl rfl rfl) ?_; refine PL.op rfl (Rd.moveT rfl) ?_; refine PL.callM false [0, 1] (w_L_markPageS N p_a.pages p_k r1 h_2) rfl Try.call30 rfl ⟨.os rfl, .t _, trivial⟩ rfl ⟨⟨_, rfl, rfl, rfl, .mx (sb_dL rfl 0 _)⟩, ⟨_, rfl, rfl, rfl, .fm _⟩, trivial⟩ (fun h => by cases h) ?_; refine PL.nm (iA r1.1) [some ⟨.mx (dL 1 0 r1.2), 50, 1⟩, some ⟨.fm (fam r1.2), 70, 2⟩, some ⟨.mx [.os 0 0 p_a.pages.length], 30, 0⟩] rfl (by show ([some ⟨.mx (AV.renL (thet [0, 1] 3) (dL 1 0 r1.2)), 50, 1⟩, some ⟨.fm (fam r1.2), 70, 2⟩, some ⟨.mx [.os 0 0 p_a.pages.length], 30, 0⟩] : Obs) = _; simp only [dL_ren]; rfl) ?_; refine PL.nm (iA r1.1) [some ⟨.mx (dL 1 0 r1.2), 50, 1⟩, some ⟨.fm (fam r1.2), 70, 2⟩, some ⟨.mx [.os 0 0 p_a.pages.length], 30, 0⟩] rfl rfl ?_; refine PL.op rfl (Rd.asnT rfl) ?_; refine PL.nil ?_; refine thA_n ?_; refine PC.seq ?_; refine PC.region ?_; refine PL.op rfl (Rd.moveT rfl) ?_; refine PL.op rfl (Rd.asnT rfl) ?_; refine PL.nil ?_; refine thA_n ?_; refine PC.ret ?_; obtain rfl := some_in hh0; exact FinA.mk (r := iA ((r1.1, r1.2).1)) (bl := [⟨.mx (dL 1 0 ((r1.1, r1.2).2)), 50, 1⟩, ⟨.fm (fam ((r1.1, r1.2).2)), 70, 2⟩]) [some 0, some 1] (.inl rfl) rfl (rl := [.tmp 4]) (.tmp .nil) rfl rfl rfl (.t _) ⟨⟨_, rfl, rfl, rfl, .mx (sb_dL rfl 0 _)⟩, ⟨_, rfl, rfl, rfl, .fm _⟩, trivial⟩ ⟨rfl, rfl⟩
def m_L_heldPageS_k1 (N : Nat) (k11 : Int) : Option (Int) :=
  some k11
def m_L_heldPageS_b1 (N : Nat) (p_a : (List I_Page)) (k1 : Int) (i2 : Int) : Option ((Int × Int) ⊕ (Int ⊕ Int)) :=
  cond (decide (i2 < (p_a.length : Int)))
    ((ixI p_a i2).bind fun x18 =>
    (m_L_heldSlotS N x18.slots k1).bind fun r20 =>
    cond (decide (r20 < (0 : Int)))
      (some (.inr (.inr (-1 : Int))))
      ((chk (i2 + (1 : Int))).bind fun n23 =>
      some (.inl (r20, n23))))
    (some (.inr (.inl k1)))
def m_L_heldPageS (N : Nat) (p_a : (List I_Page)) (p_k : Int) : Option (Int) :=
  (loopM (β := Int ⊕ Int) (fun s : Int × Int => m_L_heldPageS_b1 N p_a s.1 s.2) N (p_k, (0 : Int))).bind fun o => match o with
  | .inl e =>
    m_L_heldPageS_k1 N e
  | .inr v =>
    some v
theorem w_L_heldPageS (N : Nat) (p_a : (List I_Page)) (p_k : Int) (r : Int) (hh0 : m_L_heldPageS N p_a p_k = some r) : FnX Try.prog 31 [] [sL p_a, iA p_k] (RE (iA r) []) := by
  unfold m_L_heldPageS at hh0; refine FnX.mk Try.func31 rfl rfl ?_; intro s hs; refine PC.seq ?_; refine PC.region ?_; refine PL.op rfl (Rd.asnT rfl) ?_; refine PL.nil ?_; refine thA_n ?_; (iterate 2 refine PC.seq ?_); refine PC.region ?_; refine PL.op rfl (Rd.asnT rfl) ?_; refine PL.nil ?_; refine thA_n ?_; obtain ⟨o12, h_13, hh0⟩ := bind_some hh0; refine PC.cutE hs (fun x : Int => [(1, iA x)]) (fun x => []) (fun x => m_L_heldPageS_k1 N x = some r) ?_ ?_
  · refine PC.block ?_; refine PC.loop hs (fun x : Nat × (Int × Int) => [(0, sL p_a), (1, iA x.2.1), (5, iA x.2.2)]) (fun x => []) (fun x => loopM (β := Int ⊕ Int) (fun s : Int × Int => m_L_heldPageS_b1 N p_a s.1 s.2) x.1 x.2 = some o12) (fun x => x.1) (N, (p_k, (0 : Int))) [] ⟨rfl, rfl, trivial, ⟨.t _, .t _, .t _, trivial⟩⟩ h_13 ?_
    rintro ⟨f14_, k1, i2⟩ h_16
    obtain ⟨f14, y15, rfl, hh1, kk1⟩ := loopM_some h_16
    replace hh1 : m_L_heldPageS_b1 N p_a k1 i2 = some y15 := hh1
    unfold m_L_heldPageS_b1 at hh1; (iterate 2 refine PC.seq ?_); refine PC.region ?_; (iterate 2 refine PL.op rfl (Rd.moveT rfl) ?_); refine PL.op rfl (Rd.lenT rfl) ?_; refine PL.op rfl (Rd.lss rfl rfl) ?_; refine PL.nil ?_; refine thA_n ?_; rcases cond_some hh1 with ⟨h_17, hh1⟩ | ⟨h_17, hh1⟩; rotate_left
    · refine PC.cond_false rfl h_17 ?_; refine PC.exit ?_; (iterate 2 refine thA_e ?_); refine inA_eq rfl ?_; refine thA_n ?_; obtain rfl := some_in hh1; obtain rfl : (.inl k1 : Int ⊕ Int) = o12 := kk1; exact ⟨k1, hh0, [], ⟨rfl, rfl, trivial, ⟨.t _, trivial⟩⟩⟩
    refine PC.cond_true rfl h_17 ?_; refine PC.skip ?_; refine thA_n ?_; refine PC.seq ?_; refine PC.block ?_; refine PC.seq ?_; obtain ⟨x18, h_19, hh1⟩ := bind_some hh1; obtain ⟨r20, h_21, hh1⟩ := bind_some hh1; refine PC.region ?_; (iterate 2 refine PL.op rfl (Rd.moveT rfl) ?_); refine PL.op rfl (Rd.ixM rfl rfl h_19) ?_; refine PL.op rfl (Rd.fieldT rfl) ?_; refine PL.op rfl (Rd.elMF (f := 0) rfl h_19 rfl rfl) ?_; refine PL.op rfl (Rd.moveT rfl) ?_; refine PL.callM false [] (w_L_heldSlotS N x18.slots k1 r20 h_21) rfl Try.call46 rfl ⟨.t _, .t _, trivial⟩ rfl trivial (fun h => by cases h) ?_; refine PL.op rfl (Rd.asnT rfl) ?_; refine PL.nil ?_; refine thA_n ?_; refine PC.seq ?_; refine PC.region ?_; refine PL.op rfl (Rd.moveT rfl) ?_; refine PL.op rfl (Rd.lss rfl rfl) ?_; refine PL.nil ?_; refine thA_n ?_; rcases cond_some hh1 with ⟨h_22, hh1⟩ | ⟨h_22, hh1⟩; rotate_left
    · refine PC.cond_false rfl h_22 ?_; refine PC.skip ?_; refine inA_n ?_; refine thA_n ?_; obtain ⟨n23, h_24, hh1⟩ := bind_some hh1; refine PC.region ?_; refine PL.op rfl (Rd.moveT rfl) ?_; refine PL.op rfl (Rd.addM rfl rfl h_24) ?_; refine PL.op rfl (Rd.asnT rfl) ?_; refine PL.nil ?_; obtain rfl := some_in hh1; refine thA_n ?_; exact ⟨(f14, (r20, n23)), Nat.lt_succ_self _, kk1, [], ⟨rfl, rfl, trivial, ⟨.t _, .t _, .t _, trivial⟩⟩⟩
    refine PC.cond_true rfl h_22 ?_; refine PC.seq ?_; refine PC.region ?_; refine PL.op rfl (Rd.asnT rfl) ?_; refine PL.nil ?_; refine thA_n ?_; refine PC.ret ?_; refine inA_r ?_; (iterate 2 refine thA_r ?_); refine inA_r ?_; refine thA_r ?_; obtain rfl := some_in hh1; obtain rfl : (.inr (-1 : Int) : Int ⊕ Int) = o12 := kk1; refine thA_r ?_; obtain rfl := some_in hh0; exact FinA.mk (r := iA (-1 : Int)) (bl := []) [] (.inl rfl) rfl (rl := [.tmp 4]) (.tmp .nil) rfl rfl rfl (.t _) trivial ⟨rfl, rfl⟩
  clear hh0
  rintro k11 hh0
  replace hh0 : m_L_heldPageS_k1 N k11 = some r := hh0
  unfold m_L_heldPageS_k1 at hh0; refine thA_n ?_; refine PC.seq ?_; refine PC.region ?_; refine PL.op rfl (Rd.moveT rfl) ?_; refine PL.op rfl (Rd.asnT rfl) ?_; refine PL.nil ?_; refine thA_n ?_; refine PC.ret ?_; obtain rfl := some_in hh0; exact FinA.mk (r := iA k11) (bl := []) [] (.inl rfl) rfl (rl := [.tmp 4]) (.tmp .nil) rfl rfl rfl (.t _) trivial ⟨rfl, rfl⟩
def m_L_heldHeap (N : Nat) (p_a : I_Heap) (p_k : Int) : Option (Int) :=
  (m_L_heldPageS N p_a.pages p_k).bind fun r1 =>
  cond (decide (r1 < (0 : Int)))
    (some (-1 : Int))
    (some r1)
theorem w_L_heldHeap (N : Nat) (p_a : I_Heap) (p_k : Int) (r : Int) (hh0 : m_L_heldHeap N p_a p_k = some r) : FnX Try.prog 13 [] [.agg [sL p_a.pages], iA p_k] (RE (iA r) []) := by
  unfold m_L_heldHeap at hh0; refine FnX.mk Try.func13 rfl rfl ?_; intro s hs; refine PC.seq ?_; refine PC.region ?_; refine PL.ef rfl (Ef.box rfl rfl rfl) ?_; refine PL.nm (.op 0 0) [some ⟨.mx [sL p_a.pages], 30, 0⟩] rfl rfl ?_; refine PL.op rfl (Rd.asnT rfl) ?_; refine PL.nil ?_; refine thA_n ?_; refine PC.seq ?_; obtain ⟨r1, h_2, hh0⟩ := bind_some hh0; refine PC.region ?_; refine PL.op rfl (Rd.fieldO rfl rfl) ?_; refine PL.op rfl (Rd.loadO rfl rfl rfl) ?_; refine PL.op rfl (Rd.moveT rfl) ?_; refine PL.callM false [] (w_L_heldPageS N p_a.pages p_k r1 h_2) rfl Try.call31 rfl ⟨.t _, .t _, trivial⟩ rfl trivial (fun h => by cases h) ?_; refine PL.op rfl (Rd.asnT rfl) ?_; refine PL.nil ?_; refine thA_n ?_; (iterate 2 refine PC.seq ?_); refine PC.region ?_; refine PL.op rfl (Rd.moveT rfl) ?_; refine PL.op rfl (Rd.lss rfl rfl) ?_; refine PL.nil ?_; refine thA_n ?_; rcases cond_some hh0 with ⟨h_3, hh0⟩ | ⟨h_3, hh0⟩
  · refine PC.cond_true rfl h_3 ?_; refine PC.seq ?_; refine PC.region ?_; refine PL.op rfl (Rd.asnT rfl) ?_; refine PL.nil ?_; refine thA_n ?_; refine PC.ret ?_; refine thA_r ?_; obtain rfl := some_in hh0; exact FinA.mk (r := iA (-1 : Int)) (bl := []) [] (.inl rfl) rfl (rl := [.tmp 4]) (.tmp .nil) rfl rfl rfl (.t _) trivial ⟨rfl, rfl⟩
  refine PC.cond_false rfl h_3 ?_; refine PC.skip ?_; refine thA_n ?_; refine PC.seq ?_; refine PC.region ?_; refine PL.op rfl (Rd.moveT rfl) ?_; refine PL.op rfl (Rd.asnT rfl) ?_; refine PL.nil ?_; refine thA_n ?_; refine PC.ret ?_; obtain rfl := some_in hh0; exact FinA.mk (r := iA r1) (bl := []) [] (.inl rfl) rfl (rl := [.tmp 4]) (.tmp .nil) rfl rfl rfl (.t _) trivial ⟨rfl, rfl⟩
def m_L_toRid (N : Nat) (p_a : L_Rid) : Option (I_Rid) :=
  some (I_Rid.mk p_a.page p_a.slot)
theorem w_L_toRid (N : Nat) (p_a : L_Rid) (r : I_Rid) (hh0 : m_L_toRid N p_a = some r) : FnX Try.prog 9 [] [.agg [iA p_a.page, iA p_a.slot]] (RE (.agg [iA r.page, iA r.slot]) []) := by
  unfold m_L_toRid at hh0; refine FnX.mk Try.func9 rfl rfl ?_; intro s hs; refine PC.seq ?_; refine PC.region ?_; refine PL.ef rfl (Ef.box rfl rfl rfl) ?_; refine PL.nm (.op 0 0) [some ⟨.mx [iA p_a.page, iA p_a.slot], 26, 0⟩] rfl rfl ?_; refine PL.ef rfl (Ef.alloc rfl rfl) ?_; refine PL.nm (.op 1 0) [some ⟨.mx [iA p_a.page, iA p_a.slot], 26, 0⟩, some ⟨.mx [iA (0 : Int), iA (0 : Int)], 34, 0⟩] rfl rfl ?_; refine PL.nil ?_; refine thA_n ?_; refine PC.seq ?_; refine PC.region ?_; refine PL.ef rfl (Ef.alloc rfl rfl) ?_; refine PL.nm (.op 2 0) [some ⟨.mx [iA p_a.page, iA p_a.slot], 26, 0⟩, some ⟨.mx [iA (0 : Int), iA (0 : Int)], 34, 0⟩, some ⟨.mx [iA (0 : Int), iA (0 : Int)], 34, 0⟩] rfl rfl ?_; refine PL.nil ?_; refine thA_n ?_; refine PC.seq ?_; refine PC.region ?_; refine PL.op rfl (Rd.fieldO rfl rfl) ?_; refine PL.op rfl (Rd.loadO rfl rfl rfl) ?_; refine PL.op rfl (Rd.fieldO rfl rfl) ?_; refine PL.store rfl rfl rfl rfl rfl rfl rfl ?_; refine PL.nO [some ⟨.mx [iA p_a.page, iA p_a.slot], 26, 0⟩, some ⟨.mx [iA (0 : Int), iA (0 : Int)], 34, 0⟩, some ⟨.mx [iA p_a.page, iA (0 : Int)], 34, 0⟩] rfl ?_; refine PL.nil ?_; refine thA_n ?_; refine PC.seq ?_; refine PC.region ?_; refine PL.op rfl (Rd.fieldO rfl rfl) ?_; refine PL.op rfl (Rd.loadO rfl rfl rfl) ?_; refine PL.op rfl (Rd.fieldO rfl rfl) ?_; refine PL.store rfl rfl rfl rfl rfl rfl rfl ?_; refine PL.nO [some ⟨.mx [iA p_a.page, iA p_a.slot], 26, 0⟩, some ⟨.mx [iA (0 : Int), iA (0 : Int)], 34, 0⟩, some ⟨.mx [iA p_a.page, iA p_a.slot], 34, 0⟩] rfl ?_; refine PL.nil ?_; refine thA_n ?_; refine PC.seq ?_; refine PC.region ?_; refine PL.op rfl (Rd.loadBox rfl rfl rfl) ?_; refine PL.store rfl rfl rfl rfl rfl rfl rfl ?_; refine PL.nO [some ⟨.mx [iA p_a.page, iA p_a.slot], 26, 0⟩, some ⟨.mx [iA p_a.page, iA p_a.slot], 34, 0⟩, some ⟨.mx [iA p_a.page, iA p_a.slot], 34, 0⟩] rfl ?_; refine PL.nil ?_; refine thA_n ?_; refine PC.ret ?_; obtain rfl := some_in hh0; exact FinA.mk (r := .agg [iA p_a.page, iA p_a.slot]) (bl := []) [] (.inl rfl) rfl (rl := [.cell 2 34]) (.cellN rfl rfl rfl rfl .nil) rfl rfl rfl (.aggL ⟨.t _, .t _, trivial⟩) trivial ⟨rfl, rfl⟩
end V
end Go.Proofs.Ytmnjnkcooofgjaa
namespace Go.Proofs.Ytmnjnkcooofgjaa
namespace V
set_option linter.unusedVariables false
set_option maxRecDepth 100000
theorem mayEnter_of {P : Program} {c : List Char} {rest : List (List Char)} (h : behindMainWord (wordsSigns P.initOrder.toList) = c :: rest)
    (h1 : ((stripLifts liftWords (c :: rest)).2.head? == some "cut".toList) = true) (h2 : ((stripLifts liftWords (c :: rest)).1.contains "finals" || !P.laysLater) = true)
    (h3 : ((stripLifts liftWords (c :: rest)).1.contains "reflectrows" || !P.bearsReflect) = true) (h4 : ((stripLifts liftWords (c :: rest)).1.contains "reflectrows" || !(stripLifts liftWords (c :: rest)).1.contains "leanrows") = true)
    (h5 : P.doorFits (stripLifts liftWords (c :: rest)).1 = true) : P.mayEnter = true := by
  unfold Program.mayEnter
  rw [h]
  simp only [h1, h2, h3, h4, h5, Bool.and_true, Bool.or_true]
theorem lifted_of {P : Program} {b : Bool} (h : P.liftsFinal = false) (hb : b = false) : (b == P.liftsFinal) = true := by rw [h, hb]; rfl
theorem make_of {P : Program} {m : Make} (h : P.make = some .cut) (hm : m = .cut) : (P.make == some m) = true := by rw [h, hm]; rfl
theorem iniT : Try.prog.initOrder = String.ofList (List.map Char.ofNat [104, 97, 114, 110, 101, 115, 115, 32, 100, 48, 50, 102, 97, 101, 56, 56, 97, 98, 56, 100, 50, 55, 54, 53, 53, 50, 53, 57, 101, 53, 97, 101, 53, 52, 102, 55, 99, 48, 98, 98, 48, 53, 51, 55, 99, 98, 102, 48, 50, 48, 53, 50, 54, 54, 100, 101, 55, 51, 99, 97, 55, 52, 53, 51, 52, 57, 48, 97, 100, 98, 48, 57, 32, 99, 117, 116, 32, 97, 116, 32, 108, 111, 111, 112, 46, 101, 120, 97, 109, 112, 108, 101, 47, 115, 99, 104, 101, 109, 97, 109, 105, 103, 114, 97, 116, 105, 111, 110, 47, 108, 97, 119, 115, 46, 70, 110, 69, 120, 97, 99, 116, 72, 101, 97, 112, 68, 101, 108, 101, 116, 101, 32, 108, 111, 111, 112, 46, 101, 120, 97, 109, 112, 108, 101, 47, 115, 99, 104, 101, 109, 97, 109, 105, 103, 114, 97, 116, 105, 111, 110, 47, 108, 97, 119, 115, 46, 70, 110, 69, 120, 97, 99, 116, 72, 101, 97, 112, 73, 110, 115, 101, 114, 116, 32, 108, 111, 111, 112, 46, 101, 120, 97, 109, 112, 108, 101, 47, 115, 99, 104, 101, 109, 97, 109, 105, 103, 114, 97, 116, 105, 111, 110, 47, 108, 97, 119, 115, 46, 70, 110, 69, 120, 97, 99, 116, 72, 101, 97, 112, 85, 112, 100, 97, 116, 101]) := by kernel_rfl
theorem iniW : behindMainWord (wordsSigns Try.prog.initOrder.toList) = List.map Char.ofNat [99, 117, 116] :: List.map (List.map Char.ofNat) [[97, 116], [108, 111, 111, 112, 46, 101, 120, 97, 109, 112, 108, 101, 47, 115, 99, 104, 101, 109, 97, 109, 105, 103, 114, 97, 116, 105, 111, 110, 47, 108, 97, 119, 115, 46, 70, 110, 69, 120, 97, 99, 116, 72, 101, 97, 112, 68, 101, 108, 101, 116, 101], [108, 111, 111, 112, 46, 101, 120, 97, 109, 112, 108, 101, 47, 115, 99, 104, 101, 109, 97, 109, 105, 103, 114, 97, 116, 105, 111, 110, 47, 108, 97, 119, 115, 46, 70, 110, 69, 120, 97, 99, 116, 72, 101, 97, 112, 73, 110, 115, 101, 114, 116], [108, 111, 111, 112, 46, 101, 120, 97, 109, 112, 108, 101, 47, 115, 99, 104, 101, 109, 97, 109, 105, 103, 114, 97, 116, 105, 111, 110, 47, 108, 97, 119, 115, 46, 70, 110, 69, 120, 97, 99, 116, 72, 101, 97, 112, 85, 112, 100, 97, 116, 101]] := by rw [iniT, String.toList_ofList]; kernel_rfl
theorem mayE : Try.prog.mayEnter = true := mayEnter_of iniW (by kernel_rfl) (by kernel_rfl) (by kernel_rfl) (by kernel_rfl) (by kernel_rfl)
theorem liftE : Try.prog.liftsFinal = false := by
  unfold Program.liftsFinal Program.headLifts
  rw [iniW]
  kernel_rfl
theorem make_cut {P : Program} {c : List Char} {rest : List (List Char)} (h : behindMainWord (wordsSigns P.initOrder.toList) = c :: rest) (h1 : (c == "gc".toList || c == "spec".toList) = false) (h2 : (c == "cut".toList || (c == "finals".toList && rest.head? == some "cut".toList)) = true) : P.make = some .cut := by
  unfold Program.make
  rw [h]
  simp only [h1, h2, if_true, Bool.false_eq_true, if_false]
theorem makeE : Try.prog.make = some .cut := make_cut iniW (by kernel_rfl) (by kernel_rfl)
end V
end Go.Proofs.Ytmnjnkcooofgjaa
namespace Go.Proofs.Ytmnjnkcooofgjaa
namespace V
open Enc (enc)
set_option linter.unusedVariables false
set_option linter.unusedSimpArgs false
set_option maxHeartbeats 4000000
set_option maxRecDepth 100000
open Go.RowKit
attribute [local irreducible] thA inA FinA eL
open Szd (szd)
open Go.ChangeShapes Go.WideShapes Go.ChangeAt
instance : Opn Try.prog Bool 4 := Opn.bool Try.underlying4
instance : Opn Try.prog ByteArray 9 := Opn.str Try.underlying9
instance : Szd L_Slot := ⟨fun x => szd x.live ∧ szd x.data⟩
instance : Opn Try.prog L_Slot 85 := ⟨fun {H en W fuel cs x} h => by
  obtain ⟨hl, hf⟩ := opn_fields Try.underlying85 h; rw [show Try.prog.cellsOf 85 = 2 by kernel_rfl] at hl; obtain ⟨n0, y0, h0⟩ := hf 0 _ rfl
  replace h0 : DataW.trod en Try.prog W 0 (fun _ => true) true n0 4 ((cs.drop 0).take (Try.prog.cellsOf 4)) = some y0 := h0
  rw [show Try.prog.cellsOf 4 = 1 by kernel_rfl] at h0; obtain ⟨a0, g0, s0⟩ := (inferInstance : Opn Try.prog Bool 4).opn h0; obtain ⟨n1, y1, h1⟩ := hf 1 _ rfl
  replace h1 : DataW.trod en Try.prog W 0 (fun _ => true) true n1 9 ((cs.drop 1).take (Try.prog.cellsOf 9)) = some y1 := h1
  rw [show Try.prog.cellsOf 9 = 1 by kernel_rfl] at h1; obtain ⟨a1, g1, s1⟩ := (inferInstance : Opn Try.prog ByteArray 9).opn h1; refine ⟨⟨a0, a1⟩, ?_, s0, s1⟩; have := TL.step g0 (TL.step g1 (TL.fin hl) rfl) rfl; exact this⟩
instance : Opn Try.prog (List L_Slot) 63 := Opn.sl Try.underlying63 (by kernel_rfl) (by decide)
instance : Szd L_Page := ⟨fun x => szd x.slots⟩
instance : Opn Try.prog L_Page 65 := ⟨fun {H en W fuel cs x} h => by
  obtain ⟨hl, hf⟩ := opn_fields Try.underlying65 h; rw [show Try.prog.cellsOf 65 = 1 by kernel_rfl] at hl; obtain ⟨n0, y0, h0⟩ := hf 0 _ rfl
  replace h0 : DataW.trod en Try.prog W 0 (fun _ => true) true n0 63 ((cs.drop 0).take (Try.prog.cellsOf 63)) = some y0 := h0
  rw [show Try.prog.cellsOf 63 = 1 by kernel_rfl] at h0; obtain ⟨a0, g0, s0⟩ := (inferInstance : Opn Try.prog (List L_Slot) 63).opn h0; refine ⟨⟨a0⟩, ?_, s0⟩; have := TL.step g0 (TL.fin hl) rfl; exact this⟩
instance : Opn Try.prog (List L_Page) 22 := Opn.sl Try.underlying22 (by kernel_rfl) (by decide)
instance : Szd L_Heap := ⟨fun x => szd x.pages⟩
instance : Opn Try.prog L_Heap 24 := ⟨fun {H en W fuel cs x} h => by
  obtain ⟨hl, hf⟩ := opn_fields Try.underlying24 h; rw [show Try.prog.cellsOf 24 = 1 by kernel_rfl] at hl; obtain ⟨n0, y0, h0⟩ := hf 0 _ rfl
  replace h0 : DataW.trod en Try.prog W 0 (fun _ => true) true n0 22 ((cs.drop 0).take (Try.prog.cellsOf 22)) = some y0 := h0
  rw [show Try.prog.cellsOf 22 = 1 by kernel_rfl] at h0; obtain ⟨a0, g0, s0⟩ := (inferInstance : Opn Try.prog (List L_Page) 22).opn h0; refine ⟨⟨a0⟩, ?_, s0⟩; have := TL.step g0 (TL.fin hl) rfl; exact this⟩
instance : Opn Try.prog Int 3 := Opn.int Try.underlying3
instance : Szd L_Rid := ⟨fun x => szd x.page ∧ szd x.slot⟩
instance : Opn Try.prog L_Rid 26 := ⟨fun {H en W fuel cs x} h => by
  obtain ⟨hl, hf⟩ := opn_fields Try.underlying26 h; rw [show Try.prog.cellsOf 26 = 2 by kernel_rfl] at hl; obtain ⟨n0, y0, h0⟩ := hf 0 _ rfl
  replace h0 : DataW.trod en Try.prog W 0 (fun _ => true) true n0 3 ((cs.drop 0).take (Try.prog.cellsOf 3)) = some y0 := h0
  rw [show Try.prog.cellsOf 3 = 1 by kernel_rfl] at h0; obtain ⟨a0, g0, s0⟩ := (inferInstance : Opn Try.prog Int 3).opn h0; obtain ⟨n1, y1, h1⟩ := hf 1 _ rfl
  replace h1 : DataW.trod en Try.prog W 0 (fun _ => true) true n1 3 ((cs.drop 1).take (Try.prog.cellsOf 3)) = some y1 := h1
  rw [show Try.prog.cellsOf 3 = 1 by kernel_rfl] at h1; obtain ⟨a1, g1, s1⟩ := (inferInstance : Opn Try.prog Int 3).opn h1; refine ⟨⟨a0, a1⟩, ?_, s0, s1⟩; have := TL.step g0 (TL.step g1 (TL.fin hl) rfl) rfl; exact this⟩
end V
end Go.Proofs.Ytmnjnkcooofgjaa
namespace Go.Proofs.Ytmnjnkcooofgjaa
namespace V
set_option linter.unusedVariables false
set_option linter.unusedSimpArgs false
set_option maxHeartbeats 1000000
/-- A heap that is valid. -/
def vH (h : I_Heap) : Prop := h.pages.length ≤ 6 ∧ ∀ p ∈ h.pages, vP p
noncomputable instance (h : I_Heap) : Decidable (vH h) := Classical.propDecidable _
/-- Pages that a machine can hold. -/
structure HB (l : List I_Page) : Prop where
  len : l.length ≤ 2000000
  pg : ∀ p ∈ l, PB p.slots
/-- A record put on the first page with room. -/
noncomputable def insP (l : List I_Page) (d : ByteArray) : I_Heap × I_Rid × Bool :=
  match l[l.findIdx (fun p => (putP p d).2.2)]? with
  | some p => (⟨l.set (l.findIdx (fun p => (putP p d).2.2)) (putP p d).1⟩, ⟨(l.findIdx (fun p => (putP p d).2.2) : Nat), (putP p d).2.1⟩, true)
  | none => if (putP ⟨[]⟩ d).2.2 = true ∧ l.length ≠ 6 then (⟨l ++ [(putP ⟨[]⟩ d).1]⟩, ⟨(l.length : Nat), (putP ⟨[]⟩ d).2.1⟩, true) else (⟨[]⟩, ⟨0, 0⟩, false)
noncomputable def hDel (h : I_Heap) (r : I_Rid) : I_Heap × Bool :=
  if vH h ∧ 0 ≤ r.page then (match h.pages[r.page.toNat]? with
    | some p => if (clearP p r.slot).2 = true then (⟨h.pages.set r.page.toNat (clearP p r.slot).1⟩, true) else (⟨[]⟩, false)
    | none => (⟨[]⟩, false)) else (⟨[]⟩, false)
section
variable {N : Nat} (hN : 100000000 ≤ N)
include hN
theorem vHI {h : I_Heap} (hb : HB h.pages) : m_I_ValidHeap N h = some (decide (vH h)) := by
  refine bool_eq ?_
  unfold m_I_ValidHeap
  have hl := hb.len
  by_cases h6 : 6 < h.pages.length
  · refine ok.ift (by omega) (ok.some ?_)
    simp [vH]; omega
  refine ok.iff (by omega) ?_
  refine ok.call (P := fun o => match o with | .inl _ => ∀ p ∈ h.pages, vP p | .inr v => v = false ∧ ¬ vH h) (ok.each h.pages.length (fun i s => s = (i : Int) ∧ ∀ k (h1 : k < h.pages.length), k < i → vP h.pages[k]) _ ?_ ?_ N 0 0 (Nat.zero_le _) ⟨rfl, fun k _ h => by omega⟩ (by omega)) ?_
  · rintro i _ hi ⟨rfl, hg⟩
    unfold m_I_ValidHeap_b1
    repeat' (first | (with_reducible refine ok.some ?_) | ((with_reducible refine ok.eq (ixI_nat hi) ?_)) | ((with_reducible refine ok.eq (validPI hN (hb.pg _ (List.getElem_mem hi))) ?_)) | (with_reducible refine ok.ite (fun hc => ?_) (fun hc => ?_)) | (with_reducible refine ok.cond (fun hc => ?_) (fun hc => ?_)) | (with_reducible refine ok.chk (by omega) ?_) | (with_reducible refine ok.bs ?_) | (with_reducible refine ok.remM (by omega) (fun _ hq => ?_)) | (with_reducible refine ok.quoM (by omega) (fun _ hq => ?_)) | (with_reducible refine ok.ix (by omega) (by omega) (fun q hq he => ?_)))
    · refine ⟨by simp, fun k h1 h2 => ?_⟩
      rcases Nat.lt_succ_iff_lt_or_eq.1 h2 with h4 | h4
      · exact hg k h1 h4
      · subst h4; exact hc
    · exact ⟨rfl, fun hv => hc (hv.2 _ (List.getElem_mem hi))⟩
    · omega
  · rintro _ ⟨rfl, hg⟩
    unfold m_I_ValidHeap_b1
    repeat' (first | (with_reducible refine ok.some ?_) | (with_reducible refine ok.iff (by omega) ?_) | (with_reducible refine ok.ite (fun hc => ?_) (fun hc => ?_)) | (with_reducible refine ok.cond (fun hc => ?_) (fun hc => ?_)) | (with_reducible refine ok.chk (by omega) ?_) | (with_reducible refine ok.bs ?_) | (with_reducible refine ok.remM (by omega) (fun _ hq => ?_)) | (with_reducible refine ok.quoM (by omega) (fun _ hq => ?_)) | (with_reducible refine ok.ix (by omega) (by omega) (fun q hq he => ?_)))
    intro s hs
    obtain ⟨k, hk, rfl⟩ := List.getElem_of_mem hs
    exact hg k hk hk
  · rintro (u | r) hq
    · exact ok.some ⟨fun _ => ⟨by omega, hq⟩, fun _ => rfl⟩
    · exact ok.some (by simp [hq.1, hq.2])
theorem vHS {h : I_Heap} (hb : HB h.pages) : m_S_validHeap N h = some (decide (vH h)) := by
  refine bool_eq ?_
  unfold m_S_validHeap
  have hl := hb.len
  refine ok.call (P := fun o => match o with | .inl _ => ∀ p ∈ h.pages, vP p | .inr v => v = false ∧ ¬ vH h) (ok.each h.pages.length (fun i s => s = (i : Int) ∧ ∀ k (h1 : k < h.pages.length), k < i → vP h.pages[k]) _ ?_ ?_ N 0 0 (Nat.zero_le _) ⟨rfl, fun k _ h => by omega⟩ (by omega)) ?_
  · rintro i _ hi ⟨rfl, hg⟩
    unfold m_S_validHeap_b1
    repeat' (first | (with_reducible refine ok.some ?_) | ((with_reducible refine ok.eq (ixI_nat hi) ?_)) | ((with_reducible refine ok.eq (validPS hN (hb.pg _ (List.getElem_mem hi))) ?_)) | (with_reducible refine ok.ite (fun hc => ?_) (fun hc => ?_)) | (with_reducible refine ok.cond (fun hc => ?_) (fun hc => ?_)) | (with_reducible refine ok.chk (by omega) ?_) | (with_reducible refine ok.bs ?_) | (with_reducible refine ok.remM (by omega) (fun _ hq => ?_)) | (with_reducible refine ok.quoM (by omega) (fun _ hq => ?_)) | (with_reducible refine ok.ix (by omega) (by omega) (fun q hq he => ?_)))
    · refine ⟨by simp, fun k h1 h2 => ?_⟩
      rcases Nat.lt_succ_iff_lt_or_eq.1 h2 with h4 | h4
      · exact hg k h1 h4
      · subst h4; exact hc
    · exact ⟨rfl, fun hv => hc (hv.2 _ (List.getElem_mem hi))⟩
    · omega
  · rintro _ ⟨rfl, hg⟩
    unfold m_S_validHeap_b1
    repeat' (first | (with_reducible refine ok.some ?_) | (with_reducible refine ok.iff (by omega) ?_) | (with_reducible refine ok.ite (fun hc => ?_) (fun hc => ?_)) | (with_reducible refine ok.cond (fun hc => ?_) (fun hc => ?_)) | (with_reducible refine ok.chk (by omega) ?_) | (with_reducible refine ok.bs ?_) | (with_reducible refine ok.remM (by omega) (fun _ hq => ?_)) | (with_reducible refine ok.quoM (by omega) (fun _ hq => ?_)) | (with_reducible refine ok.ix (by omega) (by omega) (fun q hq he => ?_)))
    intro s hs
    obtain ⟨k, hk, rfl⟩ := List.getElem_of_mem hs
    exact hg k hk hk
  · rintro (u | r) hq
    · show ok (m_S_validHeap_k1 N h) _
      unfold m_S_validHeap_k1
      refine ok.some ⟨fun h6 => ⟨by have := of_decide_eq_true h6; omega, hq⟩, fun h => decide_eq_true (by have := h.1; omega)⟩
    · exact ok.some (by simp [hq.1, hq.2])
theorem cloneH {h : I_Heap} (hb : HB h.pages) : m_I_Heap_clone N h = some h := by
  refine ok.val ?_
  unfold m_I_Heap_clone
  have hl := hb.len
  refine ok.call (ok.each h.pages.length (fun i s => s = ((i : Int), h.pages.take i)) (fun b => b = h.pages) ?_ ?_ N 0 _ (Nat.zero_le _) rfl (by omega)) ?_
  · rintro i _ hi rfl
    unfold m_I_Heap_clone_b1
    dsimp only
    repeat' (first | (with_reducible refine ok.some ?_) | ((with_reducible refine ok.eq (ixI_nat hi) ?_)) | ((with_reducible refine ok.eq (cloneP (hb.pg _ (List.getElem_mem hi))) ?_)) | ((with_reducible refine ok.app ⟨by simp; omega, by simp; omega⟩ ?_)) | (with_reducible refine ok.ite (fun hc => ?_) (fun hc => ?_)) | (with_reducible refine ok.cond (fun hc => ?_) (fun hc => ?_)) | (with_reducible refine ok.chk (by omega) ?_) | (with_reducible refine ok.bs ?_) | (with_reducible refine ok.remM (by omega) (fun _ hq => ?_)) | (with_reducible refine ok.quoM (by omega) (fun _ hq => ?_)) | (with_reducible refine ok.ix (by omega) (by omega) (fun q hq he => ?_)))
    · show _ = _
      simp
    · omega
  · rintro _ rfl
    unfold m_I_Heap_clone_b1
    repeat' (first | (with_reducible refine ok.some ?_) | (with_reducible refine ok.iff (by omega) ?_) | (with_reducible refine ok.ite (fun hc => ?_) (fun hc => ?_)) | (with_reducible refine ok.cond (fun hc => ?_) (fun hc => ?_)) | (with_reducible refine ok.chk (by omega) ?_) | (with_reducible refine ok.bs ?_) | (with_reducible refine ok.remM (by omega) (fun _ hq => ?_)) | (with_reducible refine ok.quoM (by omega) (fun _ hq => ?_)) | (with_reducible refine ok.ix (by omega) (by omega) (fun q hq he => ?_)))
    simp
  · rintro e rfl
    exact ok.some rfl
theorem copyH {h : I_Heap} (hb : HB h.pages) : m_S_copyHeap N h = some h := by
  refine ok.val ?_
  unfold m_S_copyHeap
  have hl := hb.len
  refine ok.call (ok.each h.pages.length (fun i s => s = ((i : Int), h.pages.take i)) (fun b => b = h.pages) ?_ ?_ N 0 _ (Nat.zero_le _) rfl (by omega)) ?_
  · rintro i _ hi rfl
    have h4 := (hb.pg _ (List.getElem_mem hi)).len
    unfold m_S_copyHeap_b1
    dsimp only
    repeat' (first | (with_reducible refine ok.some ?_) | ((with_reducible refine ok.eq (ixI_nat hi) ?_)) | ((with_reducible refine ok.app ⟨by simp; omega, by simp; omega⟩ ?_)) | (with_reducible refine ok.ite (fun hc => ?_) (fun hc => ?_)) | (with_reducible refine ok.cond (fun hc => ?_) (fun hc => ?_)) | (with_reducible refine ok.chk (by omega) ?_) | (with_reducible refine ok.bs ?_) | (with_reducible refine ok.remM (by omega) (fun _ hq => ?_)) | (with_reducible refine ok.quoM (by omega) (fun _ hq => ?_)) | (with_reducible refine ok.ix (by omega) (by omega) (fun q hq he => ?_)))
    · show ((i : Int) + 1, h.pages.take i ++ [h.pages[i]]) = _
      simp
    · omega
  · rintro _ rfl
    unfold m_S_copyHeap_b1
    repeat' (first | (with_reducible refine ok.some ?_) | (with_reducible refine ok.iff (by omega) ?_) | (with_reducible refine ok.ite (fun hc => ?_) (fun hc => ?_)) | (with_reducible refine ok.cond (fun hc => ?_) (fun hc => ?_)) | (with_reducible refine ok.chk (by omega) ?_) | (with_reducible refine ok.bs ?_) | (with_reducible refine ok.remM (by omega) (fun _ hq => ?_)) | (with_reducible refine ok.quoM (by omega) (fun _ hq => ?_)) | (with_reducible refine ok.ix (by omega) (by omega) (fun q hq he => ?_)))
    simp
  · rintro e rfl
    exact ok.some rfl
theorem delI {h : I_Heap} {r : I_Rid} (hb : HB h.pages) : m_I_HeapDelete N h r = some (hDel h r) := by
  refine ok.val ?_
  unfold m_I_HeapDelete hDel m_I_Heap_has
  refine ok.eq (vHI hN hb) ?_
  refine ok.ite (fun hv => ?_) fun hv => ok.some (by rw [if_neg (fun h => hv h.1)])
  by_cases h0 : 0 ≤ r.page
  case neg =>
    rw [if_neg (fun h => h0 h.2), decide_eq_false h0]
    exact ok.some rfl
  rw [if_pos ⟨hv, h0⟩, decide_eq_true h0, cond_true]
  refine ok.bs ?_
  refine ok.ite (fun h1 => ?_) fun h1 => ok.some (by rw [List.getElem?_eq_none (by omega)])
  have hlt : r.page.toNat < h.pages.length := by omega
  refine ok.eq (ixI_eq (n := r.page.toNat) (by omega) hlt) ?_
  rw [List.getElem?_eq_getElem hlt]
  refine ok.eq (clearI hN (hb.pg _ (List.getElem_mem hlt))) ?_
  refine ok.cond (fun h2 => ?_) fun h2 => ok.some (by simp [h2])
  refine ok.eq (cloneH hN hb) (ok.eq (ixI_eq (n := r.page.toNat) (by omega) hlt) (ok.some ?_))
  dsimp only
  rw [if_pos h2]
theorem delS {h : I_Heap} {r : I_Rid} (hb : HB h.pages) : m_S_HeapDelete N h r = some (hDel h r) := by
  refine ok.val ?_
  unfold m_S_HeapDelete hDel
  have hl := hb.len
  refine ok.eq (vHS hN hb) ?_
  refine ok.ite (fun hv => ?_) fun hv => ok.some (by rw [if_neg (fun h => hv h.1)])
  refine ok.chk (by omega) ?_
  refine ok.eq (inRange_eq N _ _ _) ?_
  by_cases h0 : 0 ≤ r.page
  case neg =>
    rw [if_neg (fun h => h0 h.2), decide_eq_false (fun h => h0 h.1)]
    exact ok.some rfl
  rw [if_pos ⟨hv, h0⟩]
  refine ok.ite (fun h1 => ?_) fun h1 => ok.some (by rw [List.getElem?_eq_none (by omega)])
  have hlt : r.page.toNat < h.pages.length := by omega
  refine ok.eq (ixI_eq (n := r.page.toNat) (by omega) hlt) ?_
  rw [List.getElem?_eq_getElem hlt]
  refine ok.eq (clearS hN (hb.pg _ (List.getElem_mem hlt))) ?_
  refine ok.cond (fun h2 => ?_) fun h2 => ok.some (by simp [h2])
  refine ok.eq (copyH hN hb) (ok.eq (ixI_eq (n := r.page.toNat) (by omega) hlt) (ok.some ?_))
  dsimp only
  rw [if_pos h2]
omit hN in
theorem clear_vP {p : I_Page} {k : Int} (h : (clearP p k).2 = true) : lvP p k := by
  unfold clearP at h; split at h
  · assumption
  · cases h
end
/-- A page without a record is valid still. -/
theorem usedP_trim_le (l : List I_Slot) : usedP (trimP l) ≤ usedP l := usedP_take_le _ _
theorem vP_clearP {p : I_Page} {k : Int} (h : (clearP p k).2 = true) : vP (clearP p k).1 := by
  have hk := clear_vP h
  unfold clearP; rw [if_pos hk]
  have hlt := lvP_lt hk
  have hv := hk.1
  have h1 := usedP_trim_le (p.slots.set k.toNat noSlot)
  have h2 := usedP_set hlt noSlot
  have h3 : (noSlot.data.size : Int) = 0 := rfl
  have h5 := hv.1
  have h6 := hv.2.2.2
  refine ⟨?_, fun s hs hd => ?_, trimP_lastL _, ?_⟩
  · have : (trimP (p.slots.set k.toNat noSlot)).length ≤ p.slots.length := by
      unfold trimP; simp; omega
    show (trimP _).length ≤ 8
    omega
  · have hs : s ∈ p.slots.set k.toNat noSlot := List.mem_of_mem_take hs
    rcases List.mem_or_eq_of_mem_set hs with h7 | h7
    · exact hv.2.1 s h7 hd
    · subst h7; rfl
  · show usedP (trimP _) ≤ 100
    omega
section
variable {N : Nat} (hN : 100000000 ≤ N)
include hN
end
end V
end Go.Proofs.Ytmnjnkcooofgjaa
namespace Go.Proofs.Ytmnjnkcooofgjaa
namespace V
set_option linter.unusedVariables false
set_option linter.unusedSimpArgs false
set_option maxRecDepth 100000
set_option maxHeartbeats 1000000
noncomputable def mkPg (N : Nat) (x : I_Page) (k : Int) : I_Page := ⟨mkL (mkSlot N) (fun _ => 2) x.slots k⟩
def cPg (x : I_Page) : Nat := 2 * x.slots.length
theorem len_L_markPageS (N : Nat) (a : List I_Page) (k : Int) (r : Int × List I_Page) (h : m_L_markPageS N a k = some r) : r.2.length = a.length := by
  unfold m_L_markPageS at h
  obtain ⟨o, h1, h2⟩ := bind_some h
  unfold m_L_markPageS_k1 at h2
  cases h2
  refine al.loop (fun s => s.2.2.length = a.length) (fun b => b.2.length = a.length) ?_ N _ rfl _ h1
  rintro ⟨k, i, v⟩ hv
  show al (m_L_markPageS_b1 N k i v) _
  unfold m_L_markPageS_b1
  repeat' (first | exact al.some hv | (refine al.cond (fun _ => ?_) (fun _ => ?_)) | (refine al.bind (fun _ _ => ?_)) | (refine al.some ?_; simpa only [List.length_set] using hv))
theorem len_L_markHeap (N : Nat) (a : I_Heap) (k : Int) (r : Int × List I_Page) (h : m_L_markHeap N a k = some r) : r.2.length = a.pages.length := by
  unfold m_L_markHeap at h
  obtain ⟨o, h1, h2⟩ := bind_some h
  cases h2
  exact len_L_markPageS N _ _ _ h1
section
variable {N : Nat} (hN : 100000000 ≤ N)
include hN
theorem toPageS_eq {a : List L_Page} (ha : a.length ≤ 4000000) (hp : ∀ p ∈ a, p.slots.length ≤ 4000000) : m_L_toPageS N a = some (a.map toPg) := by
  unfold m_L_toPageS
  have hm : mkM 24 (⟨[]⟩ : I_Page) (a.length : Int) = some (List.replicate a.length ⟨[]⟩) := by unfold mkM; rw [if_pos (by omega)]; simp
  rw [hm]
  show (loopM _ N _).bind _ = _
  rw [to_loop a toPg (List.replicate a.length ⟨[]⟩) (by simp) (by omega)]
  · rfl
  · intro i hi v hv
    unfold m_L_toPageS_b1
    rw [decide_eq_true (by show (i : Int) < _; omega), cond_true, ixI_nat hi]
    simp only [Option.bind_some, toPage_eq hN (hp _ (List.getElem_mem hi)), ixI_nat (show i < v.length by omega), chk_eq (show (-9223372036854775808 : Int) ≤ (i : Int) + 1 ∧ (i : Int) + 1 ≤ 9223372036854775807 by omega)]
    rfl
  · intro v
    unfold m_L_toPageS_b1
    rw [decide_eq_false (by show ¬ (a.length : Int) < _; omega)]; rfl
theorem toHeap_eq {a : L_Heap} (ha : a.pages.length ≤ 4000000) (hp : ∀ p ∈ a.pages, p.slots.length ≤ 4000000) : m_L_toHeap N a = some ⟨a.pages.map toPg⟩ := by
  unfold m_L_toHeap; rw [toPageS_eq hN ha hp]; rfl
theorem eqPageS_self {a : List I_Page} (ha : a.length ≤ 5000000) (hp : ∀ p ∈ a, p.slots.length ≤ 5000000) : m_L_eqPageS N a a = some true := by
  unfold m_L_eqPageS
  rw [decide_eq_true rfl, cond_true]
  have h := ok.up (body := fun s : Int => m_L_eqPageS_b1 N a a s) a.length (fun _ => True) (fun o => o = .inl ()) (N := N) (by omega) ?_ ?_
  · obtain ⟨o, e, rfl⟩ := h; rw [e]; rfl
  · intro i hi _
    show ok (m_L_eqPageS_b1 N a a i) _
    unfold m_L_eqPageS_b1
    refine ok.ift (by omega) (ok.eq (ixI_nat hi) (ok.eq (ixI_nat hi) (ok.eq (eqPage_self hN (hp _ (List.getElem_mem hi))) (ok.bt rfl (ok.chk (by omega) (ok.some ⟨rfl, trivial⟩))))))
  · intro _
    show ok (m_L_eqPageS_b1 N a a _) _
    unfold m_L_eqPageS_b1
    exact ok.iff (by omega) (ok.some rfl)
theorem eqHeap_self {a : I_Heap} (ha : a.pages.length ≤ 5000000) (hp : ∀ p ∈ a.pages, p.slots.length ≤ 5000000) : m_L_eqHeap N a a = some true := by
  unfold m_L_eqHeap; rw [eqPageS_self hN ha hp]; rfl
theorem markPageS_eq {a : List I_Page} (ha : a.length ≤ 5000000) (hc : cL cPg a ≤ 9000000) : m_L_markPageS N a 1 = some (1 + ((cL cPg a : Nat) : Int), mkL (mkPg N) cPg a 1) := by
  unfold m_L_markPageS
  rw [mark_loop (mkPg N) cPg a 1 (by omega)]
  · rfl
  · intro i hi v hv hx
    obtain ⟨hi', hx⟩ := List.getElem?_eq_some_iff.1 hx
    have h1 := cL_take_le cPg a (i + 1)
    rw [cL_take cPg hi] at h1
    generalize hk : cL cPg (a.take i) = c0 at h1 ⊢
    have h2 : cPg a[i] = 2 * a[i].slots.length := rfl
    have hs : a[i].slots.length ≤ 5000000 := by omega
    have hx' : ixI v (i : Int) = some a[i] := by rw [ixI_nat hi', hx]
    show m_L_markPageS_b1 N (1 + ((c0 : Nat) : Int)) i v = _
    refine ok.val ?_
    unfold m_L_markPageS_b1
    refine ok.ift (by omega) (ok.eq hx' (ok.eq (markSlotS_eq hN hs (by omega)) (ok.chk (by omega) (ok.some ?_))))
    show Sum.inl (1 + (c0 : Int) + ((2 * a[i].slots.length : Nat) : Int), (i : Int) + 1, v.set i (mkPg N a[i] (1 + (c0 : Int)))) = _
    rw [h2]
  · intro k v hv
    unfold m_L_markPageS_b1
    rw [decide_eq_false (by show ¬ (a.length : Int) < (v.length : Int); omega)]; rfl
theorem heldPageS_eq {a : List I_Page} (ha : a.length ≤ 5000000) (hc : cL cPg a ≤ 9000000) : m_L_heldPageS N (mkL (mkPg N) cPg a 1) 1 = some (1 + ((cL cPg a : Nat) : Int)) := by
  unfold m_L_heldPageS
  rw [held_loop (mkPg N) cPg a 1 (by omega)]
  · rfl
  · intro i hi hx
    obtain ⟨hi', hx⟩ := List.getElem?_eq_some_iff.1 hx
    have h1 := cL_take_le cPg a (i + 1)
    rw [cL_take cPg hi] at h1
    generalize hk : cL cPg (a.take i) = c0 at h1 hx ⊢
    have h2 : cPg a[i] = 2 * a[i].slots.length := rfl
    have hs : a[i].slots.length ≤ 5000000 := by omega
    have hx' : ixI (mkL (mkPg N) cPg a 1) (i : Int) = some (mkPg N a[i] (1 + ((c0 : Nat) : Int))) := by rw [ixI_nat hi', hx]
    have hl := mkL_len (mkPg N) cPg a 1
    show m_L_heldPageS_b1 N (mkL (mkPg N) cPg a 1) (1 + ((c0 : Nat) : Int)) i = _
    refine ok.val ?_
    unfold m_L_heldPageS_b1
    refine ok.ift (by omega) (ok.eq hx' ?_)
    refine ok.eq (heldSlotS_eq hN hs (by omega)) ?_
    refine ok.iff (by omega) (ok.chk (by omega) (ok.some rfl))
  · intro k
    unfold m_L_heldPageS_b1
    have hl := mkL_len (mkPg N) cPg a 1
    rw [decide_eq_false (by show ¬ (a.length : Int) < _; omega)]; rfl
theorem markHeap_eq {a : I_Heap} (ha : a.pages.length ≤ 5000000) (hc : cL cPg a.pages ≤ 9000000) : m_L_markHeap N a 1 = some (1 + ((cL cPg a.pages : Nat) : Int), mkL (mkPg N) cPg a.pages 1) := by
  unfold m_L_markHeap; rw [markPageS_eq hN ha hc]; rfl
theorem heldHeap_eq {a : I_Heap} (ha : a.pages.length ≤ 5000000) (hc : cL cPg a.pages ≤ 9000000) : m_L_heldHeap N ⟨mkL (mkPg N) cPg a.pages 1⟩ 1 = some (1 + ((cL cPg a.pages : Nat) : Int)) := by
  unfold m_L_heldHeap; rw [heldPageS_eq hN ha hc]
  refine ok.val ?_
  refine ok.bs (ok.iff (by omega) (ok.some rfl))
theorem szSlotS_ok {a : List L_Slot} (ha : a.length ≤ 9223372036854775807) (hd : ∀ s ∈ a, s.data.size ≤ 9223372036854775807) {l0 : Int} (h0 : 0 ≤ l0 ∧ l0 ≤ 1048576) : ok (m_L_szSlotS N a l0) fun r => r < 0 ∨ (0 ≤ r ∧ r ≤ l0 - (a.length : Int) ∧ ∀ s ∈ a, s.data.size ≤ 1048576) := by
  unfold m_L_szSlotS
  refine ok.chk (by omega) ?_
  refine ok.ite (fun _ => ok.some (.inl (by omega))) fun hc => ?_
  have hl : a.length ≤ 1048576 := by omega
  refine ok.call (P := fun o => match o with | .inl r => 0 ≤ r ∧ r ≤ l0 - (a.length : Int) ∧ (∀ s ∈ a, s.data.size ≤ 1048576) | .inr r => r < 0) (ok.each a.length (fun i s => s.2 = (i : Int) ∧ 0 ≤ s.1 ∧ s.1 ≤ l0 - (a.length : Int) ∧ ∀ k (h : k < a.length), k < i → a[k].data.size ≤ 1048576) _ ?_ ?_ N 0 _ (Nat.zero_le _) ⟨rfl, by dsimp only; omega, by dsimp only; omega, fun k _ h => by omega⟩ (by omega)) ?_
  · rintro i ⟨lft, j⟩ hi ⟨rfl, h1, h2, h3⟩
    dsimp only at h1 h2 ⊢
    have hs := hd _ (List.getElem_mem hi)
    unfold m_L_szSlotS_b1 m_L_szSlot
    refine ok.ift (by omega) (ok.eq (ixI_nat hi) ?_)
    refine ok.call (P := fun r => r < 0 ∨ (0 ≤ r ∧ r = lft - (a[i].data.size : Int))) ?_ fun r hr => ?_
    · refine ok.chk (by omega) (ok.ite (fun _ => ok.some (.inl (by omega))) fun _ => ok.some (.inr (by omega)))
    · refine ok.ite (fun _ => ok.some (by omega)) fun _ => ok.chk (by omega) (ok.some ⟨rfl, by dsimp only; omega, by dsimp only; omega, fun k h4 h5 => ?_⟩)
      rcases Nat.lt_succ_iff_lt_or_eq.1 h5 with h6 | h6
      · exact h3 k h4 h6
      · subst h6; omega
  · rintro ⟨lft, j⟩ ⟨rfl, h1, h2, h3⟩
    dsimp only at h1 h2 ⊢
    unfold m_L_szSlotS_b1
    refine ok.iff (by omega) (ok.some ?_)
    refine ⟨h1, h2, fun s hs => ?_⟩
    obtain ⟨k, hk, rfl⟩ := List.getElem_of_mem hs
    exact h3 k hk hk
  · rintro (r | r) hr
    · exact ok.some (.inr hr)
    · exact ok.some (.inl hr)
theorem szHeap_ok {a : L_Heap} (ha : a.pages.length ≤ 9223372036854775807) (hd : ∀ p ∈ a.pages, p.slots.length ≤ 9223372036854775807 ∧ ∀ s ∈ p.slots, s.data.size ≤ 9223372036854775807) : ok (m_L_szHeap N a 1048576) fun r => r < 0 ∨ (a.pages.length ≤ 1048576 ∧ cL (fun p : L_Page => p.slots.length) a.pages ≤ 1048576 ∧ ∀ p ∈ a.pages, p.slots.length ≤ 1048576 ∧ ∀ s ∈ p.slots, s.data.size ≤ 1048576) := by
  unfold m_L_szHeap m_L_szPageS
  refine ok.call (P := fun r => r < 0 ∨ (a.pages.length ≤ 1048576 ∧ cL (fun p : L_Page => p.slots.length) a.pages ≤ 1048576 ∧ ∀ p ∈ a.pages, p.slots.length ≤ 1048576 ∧ ∀ s ∈ p.slots, s.data.size ≤ 1048576)) ?_ fun r h => ?_
  · refine ok.chk (by omega) ?_
    refine ok.ite (fun _ => ok.some (.inl (by omega))) fun hc => ?_
    have hl : a.pages.length ≤ 1048576 := by omega
    refine ok.call (P := fun o => match o with | .inl r => cL (fun p : L_Page => p.slots.length) a.pages ≤ 1048576 ∧ (∀ p ∈ a.pages, p.slots.length ≤ 1048576 ∧ ∀ s ∈ p.slots, s.data.size ≤ 1048576) | .inr r => r < 0) (ok.each a.pages.length (fun i s => s.2 = (i : Int) ∧ 0 ≤ s.1 ∧ s.1 ≤ 1048576 - ((cL (fun p : L_Page => p.slots.length) (a.pages.take i) : Nat) : Int) ∧ ∀ k (h : k < a.pages.length), k < i → a.pages[k].slots.length ≤ 1048576 ∧ ∀ s ∈ a.pages[k].slots, s.data.size ≤ 1048576) _ ?_ ?_ N 0 _ (Nat.zero_le _) ⟨rfl, by dsimp only; omega, by simp [cL]; omega, fun k _ h => by omega⟩ (by omega)) ?_
    · rintro i ⟨lft, j⟩ hi ⟨rfl, h1, h2, h3⟩
      dsimp only at h1 h2 ⊢
      have hs := hd _ (List.getElem_mem hi)
      unfold m_L_szPageS_b1 m_L_szPage
      refine ok.ift (by omega) (ok.eq (ixI_nat hi) ?_)
      refine ok.call (P := fun r => r < 0 ∨ (0 ≤ r ∧ r ≤ lft - (a.pages[i].slots.length : Int) ∧ ∀ s ∈ a.pages[i].slots, s.data.size ≤ 1048576)) ?_ fun r hr => ?_
      · refine ok.call (szSlotS_ok hN hs.1 hs.2 ⟨h1, by omega⟩) fun r hr => ?_
        exact ok.ite (fun _ => ok.some (.inl (by omega))) fun _ => ok.some hr
      · refine ok.ite (fun _ => ok.some (by omega)) fun hn => ?_
        have hr := hr.resolve_left hn
        refine ok.chk (by omega) (ok.some ⟨rfl, by dsimp only; omega, ?_, fun k h4 h5 => ?_⟩)
        · rw [cL_take _ hi]; dsimp only; omega
        rcases Nat.lt_succ_iff_lt_or_eq.1 h5 with h6 | h6
        · exact h3 k h4 h6
        · subst h6; exact ⟨by omega, hr.2.2⟩
    · rintro ⟨lft, j⟩ ⟨rfl, h1, h2, h3⟩
      rw [List.take_length] at h2
      dsimp only at h1 h2 ⊢
      unfold m_L_szPageS_b1
      refine ok.iff (by omega) (ok.some ?_)
      refine ⟨by omega, fun s hs => ?_⟩
      obtain ⟨k, hk, rfl⟩ := List.getElem_of_mem hs
      exact h3 k hk hk
    · rintro (r | r) hr
      · exact ok.some (.inr ⟨hl, hr⟩)
      · exact ok.some (.inl hr)
  · exact ok.ite (fun _ => ok.some (.inl (by omega))) fun _ => ok.some h
end
end V
end Go.Proofs.Ytmnjnkcooofgjaa
namespace Go.Proofs.Ytmnjnkcooofgjaa
namespace V
open Enc (enc)
set_option linter.unusedVariables false
set_option linter.unusedSimpArgs false
set_option maxHeartbeats 4000000
set_option maxRecDepth 100000
open Go.RowKit
attribute [local irreducible] thA inA FinA eL
def m_L_FnExactHeapDelete (N : Nat) (p_aH : L_Heap) (p_aR : L_Rid) : Option (Bool) :=
  (m_L_szHeap N p_aH (1048576 : Int)).bind fun r1 =>
  cond (decide (r1 < (0 : Int)))
    (some true)
    ((m_L_toHeap N p_aH).bind fun r4 =>
    (m_L_toRid N p_aR).bind fun r6 =>
    (m_S_HeapDelete N r4 r6).bind fun r8 =>
    (m_L_toHeap N p_aH).bind fun r10 =>
    (m_L_toRid N p_aR).bind fun r12 =>
    (m_I_HeapDelete N r10 r12).bind fun r14 =>
    (m_L_eqHeap N r14.1 r8.1).bind fun r16 =>
    cond r16
      (cond (r14.2 == r8.2)
        ((m_L_toHeap N p_aH).bind fun r20 =>
        (m_L_eqHeap N r10 r20).bind fun r22 =>
        cond r22
          ((m_L_markHeap N r10 (1 : Int)).bind fun r25 =>
          cond (decide (r25.1 < (0 : Int)))
            (some false)
            ((m_L_eqHeap N r14.1 r8.1).bind fun r28 =>
            cond r28
              ((m_L_markHeap N r14.1 (1 : Int)).bind fun r31 =>
              (m_L_heldHeap N (I_Heap.mk r31.2) (1 : Int)).bind fun r33 =>
              cond (decide (r33 < (0 : Int)))
                (some false)
                (cond (decide (r33 = r31.1))
                  ((m_L_toHeap N p_aH).bind fun r37 =>
                  (m_L_toRid N p_aR).bind fun r39 =>
                  (m_I_HeapDelete N r37 r39).bind fun r41 =>
                  (m_L_eqHeap N r41.1 r8.1).bind fun r43 =>
                  cond r43
                    (cond (r41.2 == r8.2)
                      ((m_L_heldHeap N (I_Heap.mk r31.2) (1 : Int)).bind fun r47 =>
                      cond (decide (r47 < (0 : Int)))
                        (some false)
                        (cond (decide (r47 = r31.1))
                          (some true)
                          (some false)))
                      (some false))
                    (some false))
                  (some false)))
              (some false)))
          (some false))
        (some false))
      (some false))
theorem w_L_FnExactHeapDelete (N : Nat) (p_aH : L_Heap) (p_aR : L_Rid) (r : Bool) (hh0 : m_L_FnExactHeapDelete N p_aH p_aR = some r) : FnX Try.prog 3 [] [.agg [sL p_aH.pages], .agg [iA p_aR.page, iA p_aR.slot]] (RE (bA r) []) := by
  unfold m_L_FnExactHeapDelete at hh0; refine FnX.mk Try.func3 rfl rfl ?_; intro s hs; refine PC.seq ?_; refine PC.region ?_; refine PL.ef rfl (Ef.box rfl rfl rfl) ?_; refine PL.nm (.op 0 0) [some ⟨.mx [sL p_aH.pages], 24, 0⟩] rfl rfl ?_; refine PL.ef rfl (Ef.box rfl rfl rfl) ?_; refine PL.nm (.op 1 0) [some ⟨.mx [sL p_aH.pages], 24, 0⟩, some ⟨.mx [iA p_aR.page, iA p_aR.slot], 26, 0⟩] rfl rfl ?_; refine PL.op rfl (Rd.asnT rfl) ?_; refine PL.nil ?_; refine thA_n ?_; refine PC.seq ?_; refine PC.region ?_; refine PL.op rfl (Rd.asnT rfl) ?_; refine PL.nil ?_; refine thA_n ?_; refine PC.seq ?_; obtain ⟨r1, h_2, hh0⟩ := bind_some hh0; refine PC.region ?_; refine PL.op rfl (Rd.loadBox rfl rfl rfl) ?_; refine PL.op rfl (Rd.moveT rfl) ?_; refine PL.callM false [] (w_L_szHeap N p_aH (1048576 : Int) r1 h_2) rfl Try.call6 rfl ⟨.aggL ⟨.t _, trivial⟩, .t _, trivial⟩ rfl trivial (fun h => by cases h) ?_; refine PL.op rfl (Rd.asnT rfl) ?_; refine PL.nil ?_; refine thA_n ?_; (iterate 2 refine PC.seq ?_); refine PC.region ?_; refine PL.op rfl (Rd.moveT rfl) ?_; refine PL.op rfl (Rd.lss rfl rfl) ?_; refine PL.nil ?_; refine thA_n ?_; rcases cond_some hh0 with ⟨h_3, hh0⟩ | ⟨h_3, hh0⟩
  · refine PC.cond_true rfl h_3 ?_; refine PC.seq ?_; refine PC.region ?_; refine PL.op rfl (Rd.asnT rfl) ?_; refine PL.nil ?_; refine thA_n ?_; refine PC.ret ?_; refine thA_r ?_; obtain rfl := some_in hh0; exact FinA.mk (r := bA true) (bl := []) [] (.inl rfl) rfl (rl := [.tmp 4]) (.tmp .nil) rfl rfl rfl (.t _) trivial ⟨rfl, rfl⟩
  refine PC.cond_false rfl h_3 ?_; refine PC.skip ?_; refine thA_n ?_; obtain ⟨r4, h_5, hh0⟩ := bind_some hh0; obtain ⟨r6, h_7, hh0⟩ := bind_some hh0; obtain ⟨r8, h_9, hh0⟩ := bind_some hh0; refine PC.cut hs (fun _ : Unit => [(2, .op 0 0), (3, .op 1 0), (6, .op 2 0), (7, bA r8.2)]) (fun _ => [⟨.mx [sL p_aH.pages], 24, 0⟩, ⟨.mx [iA p_aR.page, iA p_aR.slot], 26, 0⟩, ⟨.mx [.os 3 0 r8.1.pages.length], 30, 0⟩, ⟨.tr (eL r8.1.pages), 50, 1⟩]) (fun _ => True) ?_ ?_
  · refine PC.any (id := 5) 11 (.seg [0, 2] (.fork (.seg [1] (.fork (.seg [3] (.fork (.seg [4, 5, 6, 7, 8, 9, 10] .done) (.seg [8, 4, 5, 6, 7, 9, 10] .done))) (.seg [8, 3, 4, 5, 6, 7, 9, 10] .done))) (.seg [8, 1, 3, 4, 5, 6, 7, 9, 10] .done))) [] rfl (by kernel_rfl) rfl ?_; refine PT.seg ?_; (iterate 2 refine PR.op rfl (Rd.loadBox rfl rfl rfl) ?_); refine PR.nil ?_; refine PT.fork ?_ ?_; rotate_left
    · refine PT.seg ?_; refine PR.efX rfl rfl (Ef.alloc rfl rfl) ?_; refine PR.nm (.op 2 0) [some ⟨.mx [sL p_aH.pages], 24, 0⟩, some ⟨.mx [iA p_aR.page, iA p_aR.slot], 26, 0⟩, some ⟨.mx [.t (.v (.slice none 0 0))], 30, 0⟩] rfl rfl ?_; refine PR.callM false [] (w_L_toHeap N p_aH r4 h_5) rfl Try.call8 rfl ⟨.aggL ⟨.t _, trivial⟩, trivial⟩ rfl trivial (fun h => by cases h) rfl ?_; refine PR.nm (.agg [.os 3 0 r4.pages.length]) [some ⟨.mx [sL p_aH.pages], 24, 0⟩, some ⟨.mx [iA p_aR.page, iA p_aR.slot], 26, 0⟩, some ⟨.mx [.t (.v (.slice none 0 0))], 30, 0⟩, some ⟨.mx (dL 4 0 r4.pages), 50, 1⟩, some ⟨.fm (fam r4.pages), 70, 2⟩] rfl (by show ([some ⟨.mx [sL p_aH.pages], 24, 0⟩, some ⟨.mx [iA p_aR.page, iA p_aR.slot], 26, 0⟩, some ⟨.mx [.t (.v (.slice none 0 0))], 30, 0⟩, some ⟨.mx (AV.renL (thet [] 3) (dL 1 0 r4.pages)), 50, 1⟩, some ⟨.fm (fam r4.pages), 70, 2⟩] : Obs) = _; simp only [dL_ren]; rfl) ?_; refine PR.nm (.agg [.os 3 0 r4.pages.length]) [some ⟨.mx [sL p_aH.pages], 24, 0⟩, some ⟨.mx [iA p_aR.page, iA p_aR.slot], 26, 0⟩, some ⟨.mx [.t (.v (.slice none 0 0))], 30, 0⟩, some ⟨.mx (dL 4 0 r4.pages), 50, 1⟩, some ⟨.fm (fam r4.pages), 70, 2⟩] rfl rfl ?_; refine PR.callM false [] (w_L_toRid N p_aR r6 h_7) rfl Try.call9 rfl ⟨.aggL ⟨.t _, .t _, trivial⟩, trivial⟩ rfl trivial (fun h => by cases h) rfl ?_; refine PR.frzD hs 3 4 5 [(23, .agg [sL r4.pages])] [some ⟨.mx [sL p_aH.pages], 24, 0⟩, some ⟨.mx [iA p_aR.page, iA p_aR.slot], 26, 0⟩, some ⟨.mx [.t (.v (.slice none 0 0))], 30, 0⟩, none, none] rfl rfl rfl rfl rfl ⟨(.aggL ⟨(Sb.fzD rfl rfl (by decide) (by decide) rfl rfl rfl), trivial⟩), trivial⟩ ⟨⟨rfl, .inl rfl⟩, ⟨rfl, .inl rfl⟩, ⟨rfl, .inl rfl⟩, trivial⟩ rfl ?_; refine PR.callM false [] (w_S_HeapDelete N r4 r6 r8 h_9) rfl Try.call7 rfl ⟨.aggL ⟨.t _, trivial⟩, .aggL ⟨.t _, .t _, trivial⟩, trivial⟩ rfl trivial (fun h => by cases h) rfl ?_; refine PR.nm (.tup [.agg [.os 5 0 r8.1.pages.length], bA r8.2]) [some ⟨.mx [sL p_aH.pages], 24, 0⟩, some ⟨.mx [iA p_aR.page, iA p_aR.slot], 26, 0⟩, some ⟨.mx [.t (.v (.slice none 0 0))], 30, 0⟩, none, none, some ⟨.tr (eL r8.1.pages), 50, 1⟩] rfl rfl ?_; refine PR.op rfl (Rd.moveU rfl) ?_; (iterate 2 refine PR.op rfl (Rd.extract rfl rfl) ?_); refine PR.store rfl rfl rfl rfl rfl rfl rfl rfl ?_; refine PR.nO [some ⟨.mx [sL p_aH.pages], 24, 0⟩, some ⟨.mx [iA p_aR.page, iA p_aR.slot], 26, 0⟩, some ⟨.mx [.os 5 0 r8.1.pages.length], 30, 0⟩, none, none, some ⟨.tr (eL r8.1.pages), 50, 1⟩] rfl ?_; refine PR.op rfl (Rd.asnT rfl) ?_; refine PR.nil ?_; refine PT.done ?_; refine PL.nil ?_; refine thA_n ?_; exact ⟨(), trivial, [some 0, some 1, some 2, some 5], ⟨rfl, rfl, ⟨⟨_, rfl, rfl, rfl, .mx ⟨.t _, trivial⟩⟩, ⟨_, rfl, rfl, rfl, .mx ⟨.t _, .t _, trivial⟩⟩, ⟨_, rfl, rfl, rfl, .mx ⟨.os rfl, trivial⟩⟩, ⟨_, rfl, rfl, rfl, .tr _⟩, trivial⟩, ⟨.op rfl, .op rfl, .op rfl, .t _, trivial⟩⟩⟩
    refine PT.seg ?_; refine PR.callM false [] (w_L_toHeap N p_aH r4 h_5) rfl Try.call8 rfl ⟨.aggL ⟨.t _, trivial⟩, trivial⟩ rfl trivial (fun h => by cases h) rfl ?_; refine PR.nm (.agg [.os 2 0 r4.pages.length]) [some ⟨.mx [sL p_aH.pages], 24, 0⟩, some ⟨.mx [iA p_aR.page, iA p_aR.slot], 26, 0⟩, some ⟨.mx (dL 3 0 r4.pages), 50, 1⟩, some ⟨.fm (fam r4.pages), 70, 2⟩] rfl (by show ([some ⟨.mx [sL p_aH.pages], 24, 0⟩, some ⟨.mx [iA p_aR.page, iA p_aR.slot], 26, 0⟩, some ⟨.mx (AV.renL (thet [] 2) (dL 1 0 r4.pages)), 50, 1⟩, some ⟨.fm (fam r4.pages), 70, 2⟩] : Obs) = _; simp only [dL_ren]; rfl) ?_; refine PR.nm (.agg [.os 2 0 r4.pages.length]) [some ⟨.mx [sL p_aH.pages], 24, 0⟩, some ⟨.mx [iA p_aR.page, iA p_aR.slot], 26, 0⟩, some ⟨.mx (dL 3 0 r4.pages), 50, 1⟩, some ⟨.fm (fam r4.pages), 70, 2⟩] rfl rfl ?_; refine PR.nil ?_; refine PT.fork ?_ ?_; rotate_left
    · refine PT.seg ?_; refine PR.efX rfl rfl (Ef.alloc rfl rfl) ?_; refine PR.nm (.op 4 0) [some ⟨.mx [sL p_aH.pages], 24, 0⟩, some ⟨.mx [iA p_aR.page, iA p_aR.slot], 26, 0⟩, some ⟨.mx (dL 3 0 r4.pages), 50, 1⟩, some ⟨.fm (fam r4.pages), 70, 2⟩, some ⟨.mx [.t (.v (.slice none 0 0))], 30, 0⟩] rfl rfl ?_; refine PR.callM false [] (w_L_toRid N p_aR r6 h_7) rfl Try.call9 rfl ⟨.aggL ⟨.t _, .t _, trivial⟩, trivial⟩ rfl trivial (fun h => by cases h) rfl ?_; refine PR.frzD hs 2 3 5 [(23, .agg [sL r4.pages])] [some ⟨.mx [sL p_aH.pages], 24, 0⟩, some ⟨.mx [iA p_aR.page, iA p_aR.slot], 26, 0⟩, none, none, some ⟨.mx [.t (.v (.slice none 0 0))], 30, 0⟩] rfl rfl rfl rfl rfl ⟨(.aggL ⟨(Sb.fzD rfl rfl (by decide) (by decide) rfl rfl rfl), trivial⟩), trivial⟩ ⟨⟨rfl, .inl rfl⟩, ⟨rfl, .inl rfl⟩, ⟨rfl, .inl rfl⟩, trivial⟩ rfl ?_; refine PR.callM false [] (w_S_HeapDelete N r4 r6 r8 h_9) rfl Try.call7 rfl ⟨.aggL ⟨.t _, trivial⟩, .aggL ⟨.t _, .t _, trivial⟩, trivial⟩ rfl trivial (fun h => by cases h) rfl ?_; refine PR.nm (.tup [.agg [.os 5 0 r8.1.pages.length], bA r8.2]) [some ⟨.mx [sL p_aH.pages], 24, 0⟩, some ⟨.mx [iA p_aR.page, iA p_aR.slot], 26, 0⟩, none, none, some ⟨.mx [.t (.v (.slice none 0 0))], 30, 0⟩, some ⟨.tr (eL r8.1.pages), 50, 1⟩] rfl rfl ?_; refine PR.op rfl (Rd.moveU rfl) ?_; (iterate 2 refine PR.op rfl (Rd.extract rfl rfl) ?_); refine PR.store rfl rfl rfl rfl rfl rfl rfl rfl ?_; refine PR.nO [some ⟨.mx [sL p_aH.pages], 24, 0⟩, some ⟨.mx [iA p_aR.page, iA p_aR.slot], 26, 0⟩, none, none, some ⟨.mx [.os 5 0 r8.1.pages.length], 30, 0⟩, some ⟨.tr (eL r8.1.pages), 50, 1⟩] rfl ?_; refine PR.op rfl (Rd.asnT rfl) ?_; refine PR.nil ?_; refine PT.done ?_; refine PL.nil ?_; refine thA_n ?_; exact ⟨(), trivial, [some 0, some 1, some 4, some 5], ⟨rfl, rfl, ⟨⟨_, rfl, rfl, rfl, .mx ⟨.t _, trivial⟩⟩, ⟨_, rfl, rfl, rfl, .mx ⟨.t _, .t _, trivial⟩⟩, ⟨_, rfl, rfl, rfl, .mx ⟨.os rfl, trivial⟩⟩, ⟨_, rfl, rfl, rfl, .tr _⟩, trivial⟩, ⟨.op rfl, .op rfl, .op rfl, .t _, trivial⟩⟩⟩
    refine PT.seg ?_; refine PR.callM false [] (w_L_toRid N p_aR r6 h_7) rfl Try.call9 rfl ⟨.aggL ⟨.t _, .t _, trivial⟩, trivial⟩ rfl trivial (fun h => by cases h) rfl ?_; refine PR.nil ?_; refine PT.fork ?_ ?_
    · refine PT.seg ?_; refine PR.frzD hs 2 3 4 [(23, .agg [sL r4.pages])] [some ⟨.mx [sL p_aH.pages], 24, 0⟩, some ⟨.mx [iA p_aR.page, iA p_aR.slot], 26, 0⟩, none, none] rfl rfl rfl rfl rfl ⟨(.aggL ⟨(Sb.fzD rfl rfl (by decide) (by decide) rfl rfl rfl), trivial⟩), trivial⟩ ⟨⟨rfl, .inl rfl⟩, ⟨rfl, .inl rfl⟩, trivial⟩ rfl ?_; refine PR.callM false [] (w_S_HeapDelete N r4 r6 r8 h_9) rfl Try.call7 rfl ⟨.aggL ⟨.t _, trivial⟩, .aggL ⟨.t _, .t _, trivial⟩, trivial⟩ rfl trivial (fun h => by cases h) rfl ?_; refine PR.nm (.tup [.agg [.os 4 0 r8.1.pages.length], bA r8.2]) [some ⟨.mx [sL p_aH.pages], 24, 0⟩, some ⟨.mx [iA p_aR.page, iA p_aR.slot], 26, 0⟩, none, none, some ⟨.tr (eL r8.1.pages), 50, 1⟩] rfl rfl ?_; refine PR.op rfl (Rd.moveU rfl) ?_; (iterate 2 refine PR.op rfl (Rd.extract rfl rfl) ?_); refine PR.efX rfl rfl (Ef.alloc rfl rfl) ?_; refine PR.nm (.op 5 0) [some ⟨.mx [sL p_aH.pages], 24, 0⟩, some ⟨.mx [iA p_aR.page, iA p_aR.slot], 26, 0⟩, none, none, some ⟨.tr (eL r8.1.pages), 50, 1⟩, some ⟨.mx [.t (.v (.slice none 0 0))], 30, 0⟩] rfl rfl ?_; refine PR.store rfl rfl rfl rfl rfl rfl rfl rfl ?_; refine PR.nO [some ⟨.mx [sL p_aH.pages], 24, 0⟩, some ⟨.mx [iA p_aR.page, iA p_aR.slot], 26, 0⟩, none, none, some ⟨.tr (eL r8.1.pages), 50, 1⟩, some ⟨.mx [.os 4 0 r8.1.pages.length], 30, 0⟩] rfl ?_; refine PR.op rfl (Rd.asnT rfl) ?_; refine PR.nil ?_; refine PT.done ?_; refine PL.nil ?_; refine thA_n ?_; exact ⟨(), trivial, [some 0, some 1, some 5, some 4], ⟨rfl, rfl, ⟨⟨_, rfl, rfl, rfl, .mx ⟨.t _, trivial⟩⟩, ⟨_, rfl, rfl, rfl, .mx ⟨.t _, .t _, trivial⟩⟩, ⟨_, rfl, rfl, rfl, .mx ⟨.os rfl, trivial⟩⟩, ⟨_, rfl, rfl, rfl, .tr _⟩, trivial⟩, ⟨.op rfl, .op rfl, .op rfl, .t _, trivial⟩⟩⟩
    refine PT.seg ?_; refine PR.efX rfl rfl (Ef.alloc rfl rfl) ?_; refine PR.nm (.op 4 0) [some ⟨.mx [sL p_aH.pages], 24, 0⟩, some ⟨.mx [iA p_aR.page, iA p_aR.slot], 26, 0⟩, some ⟨.mx (dL 3 0 r4.pages), 50, 1⟩, some ⟨.fm (fam r4.pages), 70, 2⟩, some ⟨.mx [.t (.v (.slice none 0 0))], 30, 0⟩] rfl rfl ?_; refine PR.frzD hs 2 3 5 [(23, .agg [sL r4.pages])] [some ⟨.mx [sL p_aH.pages], 24, 0⟩, some ⟨.mx [iA p_aR.page, iA p_aR.slot], 26, 0⟩, none, none, some ⟨.mx [.t (.v (.slice none 0 0))], 30, 0⟩] rfl rfl rfl rfl rfl ⟨(.aggL ⟨(Sb.fzD rfl rfl (by decide) (by decide) rfl rfl rfl), trivial⟩), trivial⟩ ⟨⟨rfl, .inl rfl⟩, ⟨rfl, .inl rfl⟩, ⟨rfl, .inl rfl⟩, trivial⟩ rfl ?_; refine PR.callM false [] (w_S_HeapDelete N r4 r6 r8 h_9) rfl Try.call7 rfl ⟨.aggL ⟨.t _, trivial⟩, .aggL ⟨.t _, .t _, trivial⟩, trivial⟩ rfl trivial (fun h => by cases h) rfl ?_; refine PR.nm (.tup [.agg [.os 5 0 r8.1.pages.length], bA r8.2]) [some ⟨.mx [sL p_aH.pages], 24, 0⟩, some ⟨.mx [iA p_aR.page, iA p_aR.slot], 26, 0⟩, none, none, some ⟨.mx [.t (.v (.slice none 0 0))], 30, 0⟩, some ⟨.tr (eL r8.1.pages), 50, 1⟩] rfl rfl ?_; refine PR.op rfl (Rd.moveU rfl) ?_; (iterate 2 refine PR.op rfl (Rd.extract rfl rfl) ?_); refine PR.store rfl rfl rfl rfl rfl rfl rfl rfl ?_; refine PR.nO [some ⟨.mx [sL p_aH.pages], 24, 0⟩, some ⟨.mx [iA p_aR.page, iA p_aR.slot], 26, 0⟩, none, none, some ⟨.mx [.os 5 0 r8.1.pages.length], 30, 0⟩, some ⟨.tr (eL r8.1.pages), 50, 1⟩] rfl ?_; refine PR.op rfl (Rd.asnT rfl) ?_; refine PR.nil ?_; refine PT.done ?_; refine PL.nil ?_; refine thA_n ?_; exact ⟨(), trivial, [some 0, some 1, some 4, some 5], ⟨rfl, rfl, ⟨⟨_, rfl, rfl, rfl, .mx ⟨.t _, trivial⟩⟩, ⟨_, rfl, rfl, rfl, .mx ⟨.t _, .t _, trivial⟩⟩, ⟨_, rfl, rfl, rfl, .mx ⟨.os rfl, trivial⟩⟩, ⟨_, rfl, rfl, rfl, .tr _⟩, trivial⟩, ⟨.op rfl, .op rfl, .op rfl, .t _, trivial⟩⟩⟩
  rintro ⟨⟩ -
  refine PC.seq ?_; obtain ⟨r10, h_11, hh0⟩ := bind_some hh0; refine PC.region ?_; refine PL.op rfl (Rd.loadBox rfl rfl rfl) ?_; refine PL.callM false [] (w_L_toHeap N p_aH r10 h_11) rfl Try.call8 rfl ⟨.aggL ⟨.t _, trivial⟩, trivial⟩ rfl trivial (fun h => by cases h) ?_; refine PL.nm (.agg [.os 4 0 r10.pages.length]) [some ⟨.mx [sL p_aH.pages], 24, 0⟩, some ⟨.mx [iA p_aR.page, iA p_aR.slot], 26, 0⟩, some ⟨.mx [.os 3 0 r8.1.pages.length], 30, 0⟩, some ⟨.tr (eL r8.1.pages), 50, 1⟩, some ⟨.mx (dL 5 0 r10.pages), 50, 1⟩, some ⟨.fm (fam r10.pages), 70, 2⟩] rfl (by show ([some ⟨.mx [sL p_aH.pages], 24, 0⟩, some ⟨.mx [iA p_aR.page, iA p_aR.slot], 26, 0⟩, some ⟨.mx [.os 3 0 r8.1.pages.length], 30, 0⟩, some ⟨.tr (eL r8.1.pages), 50, 1⟩, some ⟨.mx (AV.renL (thet [] 4) (dL 1 0 r10.pages)), 50, 1⟩, some ⟨.fm (fam r10.pages), 70, 2⟩] : Obs) = _; simp only [dL_ren]; rfl) ?_; refine PL.nm (.agg [.os 4 0 r10.pages.length]) [some ⟨.mx [sL p_aH.pages], 24, 0⟩, some ⟨.mx [iA p_aR.page, iA p_aR.slot], 26, 0⟩, some ⟨.mx [.os 3 0 r8.1.pages.length], 30, 0⟩, some ⟨.tr (eL r8.1.pages), 50, 1⟩, some ⟨.mx (dL 5 0 r10.pages), 50, 1⟩, some ⟨.fm (fam r10.pages), 70, 2⟩] rfl rfl ?_; refine PL.ef rfl (Ef.alloc rfl rfl) ?_; refine PL.nm (.op 6 0) [some ⟨.mx [sL p_aH.pages], 24, 0⟩, some ⟨.mx [iA p_aR.page, iA p_aR.slot], 26, 0⟩, some ⟨.mx [.os 3 0 r8.1.pages.length], 30, 0⟩, some ⟨.tr (eL r8.1.pages), 50, 1⟩, some ⟨.mx (dL 5 0 r10.pages), 50, 1⟩, some ⟨.fm (fam r10.pages), 70, 2⟩, some ⟨.mx [.t (.v (.slice none 0 0))], 30, 0⟩] rfl rfl ?_; refine PL.store rfl rfl rfl rfl rfl rfl rfl ?_; refine PL.nO [some ⟨.mx [sL p_aH.pages], 24, 0⟩, some ⟨.mx [iA p_aR.page, iA p_aR.slot], 26, 0⟩, some ⟨.mx [.os 3 0 r8.1.pages.length], 30, 0⟩, some ⟨.tr (eL r8.1.pages), 50, 1⟩, some ⟨.mx (dL 5 0 r10.pages), 50, 1⟩, some ⟨.fm (fam r10.pages), 70, 2⟩, some ⟨.mx [.os 4 0 r10.pages.length], 30, 0⟩] rfl ?_; refine PL.nil ?_; refine thA_n ?_; obtain ⟨r12, h_13, hh0⟩ := bind_some hh0; obtain ⟨r14, h_15, hh0⟩ := bind_some hh0; refine PC.cut hs (fun _ : Unit => [(2, .op 0 0), (3, .op 1 0), (6, .op 2 0), (7, bA r8.2), (8, .op 4 0), (9, .op 7 0), (10, bA r14.2)]) (fun _ => [⟨.mx [sL p_aH.pages], 24, 0⟩, ⟨.mx [iA p_aR.page, iA p_aR.slot], 26, 0⟩, ⟨.mx [.os 3 0 r8.1.pages.length], 30, 0⟩, ⟨.tr (eL r8.1.pages), 50, 1⟩, ⟨.mx [.os 5 0 r10.pages.length], 30, 0⟩, ⟨.mx (dL 6 0 r10.pages), 50, 1⟩, ⟨.fm (fam r10.pages), 70, 2⟩, ⟨.mx [.os 8 0 r14.1.pages.length], 30, 0⟩, ⟨.mx (dL 9 0 r14.1.pages), 50, 1⟩, ⟨.fm (fam r14.1.pages), 70, 2⟩]) (fun _ => True) ?_ ?_
  · refine PC.any (id := 7) 10 (.seg [0, 1] (.fork (.seg [2] (.fork (.seg [3, 4, 5, 6, 7, 8, 9] .done) (.seg [7, 3, 4, 5, 6, 8, 9] .done))) (.seg [7, 2, 3, 4, 5, 6, 8, 9] .done))) [] rfl (by kernel_rfl) rfl ?_; refine PT.seg ?_; (iterate 2 refine PR.op rfl (Rd.loadBox rfl rfl rfl) ?_); refine PR.nil ?_; refine PT.fork ?_ ?_; rotate_left
    · refine PT.seg ?_; refine PR.efX rfl rfl (Ef.alloc rfl rfl) ?_; refine PR.nm (.op 7 0) [some ⟨.mx [sL p_aH.pages], 24, 0⟩, some ⟨.mx [iA p_aR.page, iA p_aR.slot], 26, 0⟩, some ⟨.mx [.os 3 0 r8.1.pages.length], 30, 0⟩, some ⟨.tr (eL r8.1.pages), 50, 1⟩, some ⟨.mx (dL 5 0 r10.pages), 50, 1⟩, some ⟨.fm (fam r10.pages), 70, 2⟩, some ⟨.mx [.os 4 0 r10.pages.length], 30, 0⟩, some ⟨.mx [.t (.v (.slice none 0 0))], 30, 0⟩] rfl rfl ?_; refine PR.callM false [] (w_L_toRid N p_aR r12 h_13) rfl Try.call9 rfl ⟨.aggL ⟨.t _, .t _, trivial⟩, trivial⟩ rfl trivial (fun h => by cases h) rfl ?_; refine PR.callM true [] (w_I_HeapDelete N r10 r12 r14 h_15) rfl Try.call10 rfl ⟨.aggL ⟨(Sb.fzD rfl rfl (by first | decide | exact List.not_mem_nil) (by first | decide | exact List.not_mem_nil) rfl rfl rfl), trivial⟩, .aggL ⟨.t _, .t _, trivial⟩, trivial⟩ rfl trivial (fun _ => ⟨⟨⟨trivial, trivial⟩, trivial, trivial⟩, (flat_cons flat_dp (flat_cons flat_fm flat_nil))⟩) rfl ?_; refine PR.nm (.tup [.agg [.os 8 0 r14.1.pages.length], bA r14.2]) [some ⟨.mx [sL p_aH.pages], 24, 0⟩, some ⟨.mx [iA p_aR.page, iA p_aR.slot], 26, 0⟩, some ⟨.mx [.os 3 0 r8.1.pages.length], 30, 0⟩, some ⟨.tr (eL r8.1.pages), 50, 1⟩, some ⟨.mx (dL 5 0 r10.pages), 50, 1⟩, some ⟨.fm (fam r10.pages), 70, 2⟩, some ⟨.mx [.os 4 0 r10.pages.length], 30, 0⟩, some ⟨.mx [.t (.v (.slice none 0 0))], 30, 0⟩, some ⟨.mx (dL 9 0 r14.1.pages), 50, 1⟩, some ⟨.fm (fam r14.1.pages), 70, 2⟩] rfl (by show ([some ⟨.mx [sL p_aH.pages], 24, 0⟩, some ⟨.mx [iA p_aR.page, iA p_aR.slot], 26, 0⟩, some ⟨.mx [.os 3 0 r8.1.pages.length], 30, 0⟩, some ⟨.tr (eL r8.1.pages), 50, 1⟩, some ⟨.mx (dL 5 0 r10.pages), 50, 1⟩, some ⟨.fm (fam r10.pages), 70, 2⟩, some ⟨.mx [.os 4 0 r10.pages.length], 30, 0⟩, some ⟨.mx [.t (.v (.slice none 0 0))], 30, 0⟩, some ⟨.mx (AV.renL (thet [] 8) (dL 1 0 r14.1.pages)), 50, 1⟩, some ⟨.fm (fam r14.1.pages), 70, 2⟩] : Obs) = _; simp only [dL_ren]; rfl) ?_; refine PR.nm (.tup [.agg [.os 8 0 r14.1.pages.length], bA r14.2]) [some ⟨.mx [sL p_aH.pages], 24, 0⟩, some ⟨.mx [iA p_aR.page, iA p_aR.slot], 26, 0⟩, some ⟨.mx [.os 3 0 r8.1.pages.length], 30, 0⟩, some ⟨.tr (eL r8.1.pages), 50, 1⟩, some ⟨.mx (dL 5 0 r10.pages), 50, 1⟩, some ⟨.fm (fam r10.pages), 70, 2⟩, some ⟨.mx [.os 4 0 r10.pages.length], 30, 0⟩, some ⟨.mx [.t (.v (.slice none 0 0))], 30, 0⟩, some ⟨.mx (dL 9 0 r14.1.pages), 50, 1⟩, some ⟨.fm (fam r14.1.pages), 70, 2⟩] rfl rfl ?_; refine PR.op rfl (Rd.moveU rfl) ?_; (iterate 2 refine PR.op rfl (Rd.extract rfl rfl) ?_); refine PR.store rfl rfl rfl rfl rfl rfl rfl rfl ?_; refine PR.nO [some ⟨.mx [sL p_aH.pages], 24, 0⟩, some ⟨.mx [iA p_aR.page, iA p_aR.slot], 26, 0⟩, some ⟨.mx [.os 3 0 r8.1.pages.length], 30, 0⟩, some ⟨.tr (eL r8.1.pages), 50, 1⟩, some ⟨.mx (dL 5 0 r10.pages), 50, 1⟩, some ⟨.fm (fam r10.pages), 70, 2⟩, some ⟨.mx [.os 4 0 r10.pages.length], 30, 0⟩, some ⟨.mx [.os 8 0 r14.1.pages.length], 30, 0⟩, some ⟨.mx (dL 9 0 r14.1.pages), 50, 1⟩, some ⟨.fm (fam r14.1.pages), 70, 2⟩] rfl ?_; refine PR.op rfl (Rd.asnT rfl) ?_; refine PR.nil ?_; refine PT.done ?_; refine PL.nil ?_; refine thA_n ?_; exact ⟨(), trivial, [some 0, some 1, some 2, some 3, some 6, some 4, some 5, some 7, some 8, some 9], ⟨rfl, rfl, ⟨⟨_, rfl, rfl, rfl, .mx ⟨.t _, trivial⟩⟩, ⟨_, rfl, rfl, rfl, .mx ⟨.t _, .t _, trivial⟩⟩, ⟨_, rfl, rfl, rfl, .mx ⟨.os rfl, trivial⟩⟩, ⟨_, rfl, rfl, rfl, .tr _⟩, ⟨_, rfl, rfl, rfl, .mx ⟨.os rfl, trivial⟩⟩, ⟨_, rfl, rfl, rfl, .mx (sb_dL rfl 0 _)⟩, ⟨_, rfl, rfl, rfl, .fm _⟩, ⟨_, rfl, rfl, rfl, .mx ⟨.os rfl, trivial⟩⟩, ⟨_, rfl, rfl, rfl, .mx (sb_dL rfl 0 _)⟩, ⟨_, rfl, rfl, rfl, .fm _⟩, trivial⟩, ⟨.op rfl, .op rfl, .op rfl, .t _, .op rfl, .op rfl, .t _, trivial⟩⟩⟩
    refine PT.seg ?_; refine PR.callM false [] (w_L_toRid N p_aR r12 h_13) rfl Try.call9 rfl ⟨.aggL ⟨.t _, .t _, trivial⟩, trivial⟩ rfl trivial (fun h => by cases h) rfl ?_; refine PR.nil ?_; refine PT.fork ?_ ?_
    · refine PT.seg ?_; refine PR.callM true [] (w_I_HeapDelete N r10 r12 r14 h_15) rfl Try.call10 rfl ⟨.aggL ⟨(Sb.fzD rfl rfl (by first | decide | exact List.not_mem_nil) (by first | decide | exact List.not_mem_nil) rfl rfl rfl), trivial⟩, .aggL ⟨.t _, .t _, trivial⟩, trivial⟩ rfl trivial (fun _ => ⟨⟨⟨trivial, trivial⟩, trivial, trivial⟩, (flat_cons flat_dp (flat_cons flat_fm flat_nil))⟩) rfl ?_; refine PR.nm (.tup [.agg [.os 7 0 r14.1.pages.length], bA r14.2]) [some ⟨.mx [sL p_aH.pages], 24, 0⟩, some ⟨.mx [iA p_aR.page, iA p_aR.slot], 26, 0⟩, some ⟨.mx [.os 3 0 r8.1.pages.length], 30, 0⟩, some ⟨.tr (eL r8.1.pages), 50, 1⟩, some ⟨.mx (dL 5 0 r10.pages), 50, 1⟩, some ⟨.fm (fam r10.pages), 70, 2⟩, some ⟨.mx [.os 4 0 r10.pages.length], 30, 0⟩, some ⟨.mx (dL 8 0 r14.1.pages), 50, 1⟩, some ⟨.fm (fam r14.1.pages), 70, 2⟩] rfl (by show ([some ⟨.mx [sL p_aH.pages], 24, 0⟩, some ⟨.mx [iA p_aR.page, iA p_aR.slot], 26, 0⟩, some ⟨.mx [.os 3 0 r8.1.pages.length], 30, 0⟩, some ⟨.tr (eL r8.1.pages), 50, 1⟩, some ⟨.mx (dL 5 0 r10.pages), 50, 1⟩, some ⟨.fm (fam r10.pages), 70, 2⟩, some ⟨.mx [.os 4 0 r10.pages.length], 30, 0⟩, some ⟨.mx (AV.renL (thet [] 7) (dL 1 0 r14.1.pages)), 50, 1⟩, some ⟨.fm (fam r14.1.pages), 70, 2⟩] : Obs) = _; simp only [dL_ren]; rfl) ?_; refine PR.nm (.tup [.agg [.os 7 0 r14.1.pages.length], bA r14.2]) [some ⟨.mx [sL p_aH.pages], 24, 0⟩, some ⟨.mx [iA p_aR.page, iA p_aR.slot], 26, 0⟩, some ⟨.mx [.os 3 0 r8.1.pages.length], 30, 0⟩, some ⟨.tr (eL r8.1.pages), 50, 1⟩, some ⟨.mx (dL 5 0 r10.pages), 50, 1⟩, some ⟨.fm (fam r10.pages), 70, 2⟩, some ⟨.mx [.os 4 0 r10.pages.length], 30, 0⟩, some ⟨.mx (dL 8 0 r14.1.pages), 50, 1⟩, some ⟨.fm (fam r14.1.pages), 70, 2⟩] rfl rfl ?_; refine PR.op rfl (Rd.moveU rfl) ?_; (iterate 2 refine PR.op rfl (Rd.extract rfl rfl) ?_); refine PR.efX rfl rfl (Ef.alloc rfl rfl) ?_; refine PR.nm (.op 9 0) [some ⟨.mx [sL p_aH.pages], 24, 0⟩, some ⟨.mx [iA p_aR.page, iA p_aR.slot], 26, 0⟩, some ⟨.mx [.os 3 0 r8.1.pages.length], 30, 0⟩, some ⟨.tr (eL r8.1.pages), 50, 1⟩, some ⟨.mx (dL 5 0 r10.pages), 50, 1⟩, some ⟨.fm (fam r10.pages), 70, 2⟩, some ⟨.mx [.os 4 0 r10.pages.length], 30, 0⟩, some ⟨.mx (dL 8 0 r14.1.pages), 50, 1⟩, some ⟨.fm (fam r14.1.pages), 70, 2⟩, some ⟨.mx [.t (.v (.slice none 0 0))], 30, 0⟩] rfl rfl ?_; refine PR.store rfl rfl rfl rfl rfl rfl rfl rfl ?_; refine PR.nO [some ⟨.mx [sL p_aH.pages], 24, 0⟩, some ⟨.mx [iA p_aR.page, iA p_aR.slot], 26, 0⟩, some ⟨.mx [.os 3 0 r8.1.pages.length], 30, 0⟩, some ⟨.tr (eL r8.1.pages), 50, 1⟩, some ⟨.mx (dL 5 0 r10.pages), 50, 1⟩, some ⟨.fm (fam r10.pages), 70, 2⟩, some ⟨.mx [.os 4 0 r10.pages.length], 30, 0⟩, some ⟨.mx (dL 8 0 r14.1.pages), 50, 1⟩, some ⟨.fm (fam r14.1.pages), 70, 2⟩, some ⟨.mx [.os 7 0 r14.1.pages.length], 30, 0⟩] rfl ?_; refine PR.op rfl (Rd.asnT rfl) ?_; refine PR.nil ?_; refine PT.done ?_; refine PL.nil ?_; refine thA_n ?_; exact ⟨(), trivial, [some 0, some 1, some 2, some 3, some 6, some 4, some 5, some 9, some 7, some 8], ⟨rfl, rfl, ⟨⟨_, rfl, rfl, rfl, .mx ⟨.t _, trivial⟩⟩, ⟨_, rfl, rfl, rfl, .mx ⟨.t _, .t _, trivial⟩⟩, ⟨_, rfl, rfl, rfl, .mx ⟨.os rfl, trivial⟩⟩, ⟨_, rfl, rfl, rfl, .tr _⟩, ⟨_, rfl, rfl, rfl, .mx ⟨.os rfl, trivial⟩⟩, ⟨_, rfl, rfl, rfl, .mx (sb_dL rfl 0 _)⟩, ⟨_, rfl, rfl, rfl, .fm _⟩, ⟨_, rfl, rfl, rfl, .mx ⟨.os rfl, trivial⟩⟩, ⟨_, rfl, rfl, rfl, .mx (sb_dL rfl 0 _)⟩, ⟨_, rfl, rfl, rfl, .fm _⟩, trivial⟩, ⟨.op rfl, .op rfl, .op rfl, .t _, .op rfl, .op rfl, .t _, trivial⟩⟩⟩
    refine PT.seg ?_; refine PR.efX rfl rfl (Ef.alloc rfl rfl) ?_; refine PR.nm (.op 7 0) [some ⟨.mx [sL p_aH.pages], 24, 0⟩, some ⟨.mx [iA p_aR.page, iA p_aR.slot], 26, 0⟩, some ⟨.mx [.os 3 0 r8.1.pages.length], 30, 0⟩, some ⟨.tr (eL r8.1.pages), 50, 1⟩, some ⟨.mx (dL 5 0 r10.pages), 50, 1⟩, some ⟨.fm (fam r10.pages), 70, 2⟩, some ⟨.mx [.os 4 0 r10.pages.length], 30, 0⟩, some ⟨.mx [.t (.v (.slice none 0 0))], 30, 0⟩] rfl rfl ?_; refine PR.callM true [] (w_I_HeapDelete N r10 r12 r14 h_15) rfl Try.call10 rfl ⟨.aggL ⟨(Sb.fzD rfl rfl (by first | decide | exact List.not_mem_nil) (by first | decide | exact List.not_mem_nil) rfl rfl rfl), trivial⟩, .aggL ⟨.t _, .t _, trivial⟩, trivial⟩ rfl trivial (fun _ => ⟨⟨⟨trivial, trivial⟩, trivial, trivial⟩, (flat_cons flat_dp (flat_cons flat_fm flat_nil))⟩) rfl ?_; refine PR.nm (.tup [.agg [.os 8 0 r14.1.pages.length], bA r14.2]) [some ⟨.mx [sL p_aH.pages], 24, 0⟩, some ⟨.mx [iA p_aR.page, iA p_aR.slot], 26, 0⟩, some ⟨.mx [.os 3 0 r8.1.pages.length], 30, 0⟩, some ⟨.tr (eL r8.1.pages), 50, 1⟩, some ⟨.mx (dL 5 0 r10.pages), 50, 1⟩, some ⟨.fm (fam r10.pages), 70, 2⟩, some ⟨.mx [.os 4 0 r10.pages.length], 30, 0⟩, some ⟨.mx [.t (.v (.slice none 0 0))], 30, 0⟩, some ⟨.mx (dL 9 0 r14.1.pages), 50, 1⟩, some ⟨.fm (fam r14.1.pages), 70, 2⟩] rfl (by show ([some ⟨.mx [sL p_aH.pages], 24, 0⟩, some ⟨.mx [iA p_aR.page, iA p_aR.slot], 26, 0⟩, some ⟨.mx [.os 3 0 r8.1.pages.length], 30, 0⟩, some ⟨.tr (eL r8.1.pages), 50, 1⟩, some ⟨.mx (dL 5 0 r10.pages), 50, 1⟩, some ⟨.fm (fam r10.pages), 70, 2⟩, some ⟨.mx [.os 4 0 r10.pages.length], 30, 0⟩, some ⟨.mx [.t (.v (.slice none 0 0))], 30, 0⟩, some ⟨.mx (AV.renL (thet [] 8) (dL 1 0 r14.1.pages)), 50, 1⟩, some ⟨.fm (fam r14.1.pages), 70, 2⟩] : Obs) = _; simp only [dL_ren]; rfl) ?_; refine PR.nm (.tup [.agg [.os 8 0 r14.1.pages.length], bA r14.2]) [some ⟨.mx [sL p_aH.pages], 24, 0⟩, some ⟨.mx [iA p_aR.page, iA p_aR.slot], 26, 0⟩, some ⟨.mx [.os 3 0 r8.1.pages.length], 30, 0⟩, some ⟨.tr (eL r8.1.pages), 50, 1⟩, some ⟨.mx (dL 5 0 r10.pages), 50, 1⟩, some ⟨.fm (fam r10.pages), 70, 2⟩, some ⟨.mx [.os 4 0 r10.pages.length], 30, 0⟩, some ⟨.mx [.t (.v (.slice none 0 0))], 30, 0⟩, some ⟨.mx (dL 9 0 r14.1.pages), 50, 1⟩, some ⟨.fm (fam r14.1.pages), 70, 2⟩] rfl rfl ?_; refine PR.op rfl (Rd.moveU rfl) ?_; (iterate 2 refine PR.op rfl (Rd.extract rfl rfl) ?_); refine PR.store rfl rfl rfl rfl rfl rfl rfl rfl ?_; refine PR.nO [some ⟨.mx [sL p_aH.pages], 24, 0⟩, some ⟨.mx [iA p_aR.page, iA p_aR.slot], 26, 0⟩, some ⟨.mx [.os 3 0 r8.1.pages.length], 30, 0⟩, some ⟨.tr (eL r8.1.pages), 50, 1⟩, some ⟨.mx (dL 5 0 r10.pages), 50, 1⟩, some ⟨.fm (fam r10.pages), 70, 2⟩, some ⟨.mx [.os 4 0 r10.pages.length], 30, 0⟩, some ⟨.mx [.os 8 0 r14.1.pages.length], 30, 0⟩, some ⟨.mx (dL 9 0 r14.1.pages), 50, 1⟩, some ⟨.fm (fam r14.1.pages), 70, 2⟩] rfl ?_; refine PR.op rfl (Rd.asnT rfl) ?_; refine PR.nil ?_; refine PT.done ?_; refine PL.nil ?_; refine thA_n ?_; exact ⟨(), trivial, [some 0, some 1, some 2, some 3, some 6, some 4, some 5, some 7, some 8, some 9], ⟨rfl, rfl, ⟨⟨_, rfl, rfl, rfl, .mx ⟨.t _, trivial⟩⟩, ⟨_, rfl, rfl, rfl, .mx ⟨.t _, .t _, trivial⟩⟩, ⟨_, rfl, rfl, rfl, .mx ⟨.os rfl, trivial⟩⟩, ⟨_, rfl, rfl, rfl, .tr _⟩, ⟨_, rfl, rfl, rfl, .mx ⟨.os rfl, trivial⟩⟩, ⟨_, rfl, rfl, rfl, .mx (sb_dL rfl 0 _)⟩, ⟨_, rfl, rfl, rfl, .fm _⟩, ⟨_, rfl, rfl, rfl, .mx ⟨.os rfl, trivial⟩⟩, ⟨_, rfl, rfl, rfl, .mx (sb_dL rfl 0 _)⟩, ⟨_, rfl, rfl, rfl, .fm _⟩, trivial⟩, ⟨.op rfl, .op rfl, .op rfl, .t _, .op rfl, .op rfl, .t _, trivial⟩⟩⟩
  rintro ⟨⟩ -
  (iterate 2 refine PC.seq ?_); obtain ⟨r16, h_17, hh0⟩ := bind_some hh0; rcases cond_some hh0 with ⟨h_18, hh0⟩ | ⟨h_18, hh0⟩; rotate_left
  · refine PC.region ?_; (iterate 2 refine PL.op rfl (Rd.loadBox rfl rfl rfl) ?_); refine PL.callM true [] (w_L_eqHeap N r14.1 r8.1 r16 h_17) rfl Try.call11 rfl ⟨.aggL ⟨(Sb.fzD rfl rfl (by first | decide | exact List.not_mem_nil) (by first | decide | exact List.not_mem_nil) rfl rfl rfl), trivial⟩, .aggL ⟨.own rfl (by first | decide | exact List.not_mem_nil) rfl rfl, trivial⟩, trivial⟩ rfl trivial (fun _ => ⟨trivial, flat_nil⟩) ?_; refine PL.op rfl (Rd.unnot rfl) ?_; refine PL.op rfl (Rd.moveT rfl) ?_; (iterate 3 refine PL.guard_off rfl rfl (not_f h_18) ?_); refine PL.op rfl (Rd.pick_t rfl (not_f h_18)) ?_; refine PL.nil ?_; refine thA_n ?_; refine PC.cond_true rfl rfl ?_; refine PC.seq ?_; refine PC.region ?_; refine PL.op rfl (Rd.asnT rfl) ?_; refine PL.nil ?_; refine thA_n ?_; refine PC.ret ?_; refine thA_r ?_; obtain rfl := some_in hh0; exact FinA.mk (r := bA false) (bl := []) [] (.inl rfl) rfl (rl := [.tmp 4]) (.tmp .nil) rfl rfl rfl (.t _) trivial ⟨rfl, rfl⟩
  refine PC.region ?_; (iterate 2 refine PL.op rfl (Rd.loadBox rfl rfl rfl) ?_); refine PL.callM true [] (w_L_eqHeap N r14.1 r8.1 r16 h_17) rfl Try.call11 rfl ⟨.aggL ⟨(Sb.fzD rfl rfl (by first | decide | exact List.not_mem_nil) (by first | decide | exact List.not_mem_nil) rfl rfl rfl), trivial⟩, .aggL ⟨.own rfl (by first | decide | exact List.not_mem_nil) rfl rfl, trivial⟩, trivial⟩ rfl trivial (fun _ => ⟨trivial, flat_nil⟩) ?_; refine PL.op rfl (Rd.unnot rfl) ?_; refine PL.op rfl (Rd.moveT rfl) ?_; refine PL.guard_on rfl (not_t h_18) ?_; refine PL.op rfl (Rd.moveT rfl) ?_; refine PL.guard_on rfl (not_t h_18) ?_; refine PL.op rfl (Rd.moveT rfl) ?_; refine PL.guard_on rfl (not_t h_18) ?_; refine PL.op rfl (Rd.neqB rfl rfl) ?_; refine PL.op rfl (Rd.pick_f rfl (not_t h_18)) ?_; refine PL.nil ?_; refine thA_n ?_; rcases cond_some hh0 with ⟨h_19, hh0⟩ | ⟨h_19, hh0⟩; rotate_left
  · refine PC.cond_true rfl (not_f h_19) ?_; refine PC.seq ?_; refine PC.region ?_; refine PL.op rfl (Rd.asnT rfl) ?_; refine PL.nil ?_; refine thA_n ?_; refine PC.ret ?_; refine thA_r ?_; obtain rfl := some_in hh0; exact FinA.mk (r := bA false) (bl := []) [] (.inl rfl) rfl (rl := [.tmp 4]) (.tmp .nil) rfl rfl rfl (.t _) trivial ⟨rfl, rfl⟩
  refine PC.cond_false rfl (not_t h_19) ?_; refine PC.skip ?_; refine thA_n ?_; (iterate 2 refine PC.seq ?_); obtain ⟨r20, h_21, hh0⟩ := bind_some hh0; obtain ⟨r22, h_23, hh0⟩ := bind_some hh0; refine PC.any (id := 10) 5 (.seg [0, 1, 2, 3, 4] .done) [] rfl (by kernel_rfl) rfl ?_; refine PT.seg ?_; (iterate 2 refine PR.op rfl (Rd.loadBox rfl rfl rfl) ?_); refine PR.callM false [] (w_L_toHeap N p_aH r20 h_21) rfl Try.call8 rfl ⟨.aggL ⟨.t _, trivial⟩, trivial⟩ rfl trivial (fun h => by cases h) rfl ?_; refine PR.nm (.agg [.os 10 0 r20.pages.length]) [some ⟨.mx [sL p_aH.pages], 24, 0⟩, some ⟨.mx [iA p_aR.page, iA p_aR.slot], 26, 0⟩, some ⟨.mx [.os 3 0 r8.1.pages.length], 30, 0⟩, some ⟨.tr (eL r8.1.pages), 50, 1⟩, some ⟨.mx [.os 5 0 r10.pages.length], 30, 0⟩, some ⟨.mx (dL 6 0 r10.pages), 50, 1⟩, some ⟨.fm (fam r10.pages), 70, 2⟩, some ⟨.mx [.os 8 0 r14.1.pages.length], 30, 0⟩, some ⟨.mx (dL 9 0 r14.1.pages), 50, 1⟩, some ⟨.fm (fam r14.1.pages), 70, 2⟩, some ⟨.mx (dL 11 0 r20.pages), 50, 1⟩, some ⟨.fm (fam r20.pages), 70, 2⟩] rfl (by show ([some ⟨.mx [sL p_aH.pages], 24, 0⟩, some ⟨.mx [iA p_aR.page, iA p_aR.slot], 26, 0⟩, some ⟨.mx [.os 3 0 r8.1.pages.length], 30, 0⟩, some ⟨.tr (eL r8.1.pages), 50, 1⟩, some ⟨.mx [.os 5 0 r10.pages.length], 30, 0⟩, some ⟨.mx (dL 6 0 r10.pages), 50, 1⟩, some ⟨.fm (fam r10.pages), 70, 2⟩, some ⟨.mx [.os 8 0 r14.1.pages.length], 30, 0⟩, some ⟨.mx (dL 9 0 r14.1.pages), 50, 1⟩, some ⟨.fm (fam r14.1.pages), 70, 2⟩, some ⟨.mx (AV.renL (thet [] 10) (dL 1 0 r20.pages)), 50, 1⟩, some ⟨.fm (fam r20.pages), 70, 2⟩] : Obs) = _; simp only [dL_ren]; rfl) ?_; refine PR.nm (.agg [.os 10 0 r20.pages.length]) [some ⟨.mx [sL p_aH.pages], 24, 0⟩, some ⟨.mx [iA p_aR.page, iA p_aR.slot], 26, 0⟩, some ⟨.mx [.os 3 0 r8.1.pages.length], 30, 0⟩, some ⟨.tr (eL r8.1.pages), 50, 1⟩, some ⟨.mx [.os 5 0 r10.pages.length], 30, 0⟩, some ⟨.mx (dL 6 0 r10.pages), 50, 1⟩, some ⟨.fm (fam r10.pages), 70, 2⟩, some ⟨.mx [.os 8 0 r14.1.pages.length], 30, 0⟩, some ⟨.mx (dL 9 0 r14.1.pages), 50, 1⟩, some ⟨.fm (fam r14.1.pages), 70, 2⟩, some ⟨.mx (dL 11 0 r20.pages), 50, 1⟩, some ⟨.fm (fam r20.pages), 70, 2⟩] rfl rfl ?_; refine PR.callM true [] (w_L_eqHeap N r10 r20 r22 h_23) rfl Try.call11 rfl ⟨.aggL ⟨(Sb.fzD rfl rfl (by first | decide | exact List.not_mem_nil) (by first | decide | exact List.not_mem_nil) rfl rfl rfl), trivial⟩, .aggL ⟨(Sb.fzD rfl rfl (by first | decide | exact List.not_mem_nil) (by first | decide | exact List.not_mem_nil) rfl rfl rfl), trivial⟩, trivial⟩ rfl trivial (fun _ => ⟨trivial, flat_nil⟩) rfl ?_; refine PR.op rfl (Rd.unnot rfl) ?_; refine PR.nil ?_; refine PT.done ?_; refine PL.nil ?_; refine thA_n ?_; rcases cond_some hh0 with ⟨h_24, hh0⟩ | ⟨h_24, hh0⟩; rotate_left
  · refine PC.cond_true rfl (not_f h_24) ?_; refine PC.seq ?_; refine PC.region ?_; refine PL.op rfl (Rd.asnT rfl) ?_; refine PL.nil ?_; refine thA_n ?_; refine PC.ret ?_; refine thA_r ?_; obtain rfl := some_in hh0; exact FinA.mk (r := bA false) (bl := []) [] (.inl rfl) rfl (rl := [.tmp 4]) (.tmp .nil) rfl rfl rfl (.t _) trivial ⟨rfl, rfl⟩
  refine PC.cond_false rfl (not_t h_24) ?_; refine PC.skip ?_; refine thA_n ?_; refine PC.seq ?_; refine PC.region ?_; refine PL.op rfl (Rd.asnT rfl) ?_; refine PL.nil ?_; refine thA_n ?_; refine PC.seq ?_; obtain ⟨r25, h_26, hh0⟩ := bind_some hh0; refine PC.region ?_; refine PL.op rfl (Rd.loadBox rfl rfl rfl) ?_; refine PL.op rfl (Rd.moveT rfl) ?_; refine PL.callM false [5, 6] (w_L_markHeap N r10 (1 : Int) r25 h_26) rfl Try.call12 rfl ⟨.aggL ⟨.os rfl, trivial⟩, .t _, trivial⟩ rfl ⟨⟨_, rfl, rfl, rfl, .mx (sb_dL rfl 0 _)⟩, ⟨_, rfl, rfl, rfl, .fm _⟩, trivial⟩ (fun h => by cases h) ?_; refine PL.nm (iA r25.1) [some ⟨.mx [sL p_aH.pages], 24, 0⟩, some ⟨.mx [iA p_aR.page, iA p_aR.slot], 26, 0⟩, some ⟨.mx [.os 3 0 r8.1.pages.length], 30, 0⟩, some ⟨.tr (eL r8.1.pages), 50, 1⟩, some ⟨.mx [.os 5 0 r10.pages.length], 30, 0⟩, some ⟨.mx (dL 6 0 r25.2), 50, 1⟩, some ⟨.fm (fam r25.2), 70, 2⟩, some ⟨.mx [.os 8 0 r14.1.pages.length], 30, 0⟩, some ⟨.mx (dL 9 0 r14.1.pages), 50, 1⟩, some ⟨.fm (fam r14.1.pages), 70, 2⟩, some ⟨.mx (dL 11 0 r20.pages), 50, 1⟩, some ⟨.fm (fam r20.pages), 70, 2⟩] rfl (by show ([some ⟨.mx [sL p_aH.pages], 24, 0⟩, some ⟨.mx [iA p_aR.page, iA p_aR.slot], 26, 0⟩, some ⟨.mx [.os 3 0 r8.1.pages.length], 30, 0⟩, some ⟨.tr (eL r8.1.pages), 50, 1⟩, some ⟨.mx [.os 5 0 r10.pages.length], 30, 0⟩, some ⟨.mx (AV.renL (thet [5, 6] 12) (dL 1 0 r25.2)), 50, 1⟩, some ⟨.fm (fam r25.2), 70, 2⟩, some ⟨.mx [.os 8 0 r14.1.pages.length], 30, 0⟩, some ⟨.mx (dL 9 0 r14.1.pages), 50, 1⟩, some ⟨.fm (fam r14.1.pages), 70, 2⟩, some ⟨.mx (dL 11 0 r20.pages), 50, 1⟩, some ⟨.fm (fam r20.pages), 70, 2⟩] : Obs) = _; simp only [dL_ren]; rfl) ?_; refine PL.nm (iA r25.1) [some ⟨.mx [sL p_aH.pages], 24, 0⟩, some ⟨.mx [iA p_aR.page, iA p_aR.slot], 26, 0⟩, some ⟨.mx [.os 3 0 r8.1.pages.length], 30, 0⟩, some ⟨.tr (eL r8.1.pages), 50, 1⟩, some ⟨.mx [.os 5 0 r10.pages.length], 30, 0⟩, some ⟨.mx (dL 6 0 r25.2), 50, 1⟩, some ⟨.fm (fam r25.2), 70, 2⟩, some ⟨.mx [.os 8 0 r14.1.pages.length], 30, 0⟩, some ⟨.mx (dL 9 0 r14.1.pages), 50, 1⟩, some ⟨.fm (fam r14.1.pages), 70, 2⟩, some ⟨.mx (dL 11 0 r20.pages), 50, 1⟩, some ⟨.fm (fam r20.pages), 70, 2⟩] rfl rfl ?_; refine PL.op rfl (Rd.asnT rfl) ?_; refine PL.nil ?_; refine thA_n ?_; (iterate 2 refine PC.seq ?_); rcases cond_some hh0 with ⟨h_27, hh0⟩ | ⟨h_27, hh0⟩
  · refine PC.region ?_; refine PL.op rfl (Rd.moveT rfl) ?_; refine PL.op rfl (Rd.lss rfl rfl) ?_; refine PL.op rfl (Rd.moveT rfl) ?_; (iterate 4 refine PL.guard_off rfl rfl h_27 ?_); refine PL.op rfl (Rd.pick_t rfl h_27) ?_; refine PL.op rfl (Rd.moveT rfl) ?_; (iterate 3 refine PL.guard_off rfl rfl rfl ?_); refine PL.op rfl (Rd.pick_t rfl rfl) ?_; refine PL.nil ?_; refine thA_n ?_; refine PC.cond_true rfl rfl ?_; refine PC.seq ?_; refine PC.region ?_; refine PL.op rfl (Rd.asnT rfl) ?_; refine PL.nil ?_; refine thA_n ?_; refine PC.ret ?_; refine thA_r ?_; obtain rfl := some_in hh0; exact FinA.mk (r := bA false) (bl := []) [] (.inl rfl) rfl (rl := [.tmp 4]) (.tmp .nil) rfl rfl rfl (.t _) trivial ⟨rfl, rfl⟩
  obtain ⟨r28, h_29, hh0⟩ := bind_some hh0; rcases cond_some hh0 with ⟨h_30, hh0⟩ | ⟨h_30, hh0⟩; rotate_left
  · refine PC.region ?_; refine PL.op rfl (Rd.moveT rfl) ?_; refine PL.op rfl (Rd.lss rfl rfl) ?_; refine PL.op rfl (Rd.moveT rfl) ?_; refine PL.guard_on rfl h_27 ?_; refine PL.op rfl (Rd.loadBox rfl rfl rfl) ?_; refine PL.guard_on rfl h_27 ?_; refine PL.op rfl (Rd.loadBox rfl rfl rfl) ?_; refine PL.guard_on rfl h_27 ?_; refine PL.callM true [] (w_L_eqHeap N r14.1 r8.1 r28 h_29) rfl Try.call11 rfl ⟨.aggL ⟨(Sb.fzD rfl rfl (by first | decide | exact List.not_mem_nil) (by first | decide | exact List.not_mem_nil) rfl rfl rfl), trivial⟩, .aggL ⟨.own rfl (by first | decide | exact List.not_mem_nil) rfl rfl, trivial⟩, trivial⟩ rfl trivial (fun _ => ⟨trivial, flat_nil⟩) ?_; refine PL.guard_on rfl h_27 ?_; refine PL.op rfl (Rd.unnot rfl) ?_; refine PL.op rfl (Rd.pick_f rfl h_27) ?_; refine PL.op rfl (Rd.moveT rfl) ?_; (iterate 3 refine PL.guard_off rfl rfl (not_f h_30) ?_); refine PL.op rfl (Rd.pick_t rfl (not_f h_30)) ?_; refine PL.nil ?_; refine thA_n ?_; refine PC.cond_true rfl rfl ?_; refine PC.seq ?_; refine PC.region ?_; refine PL.op rfl (Rd.asnT rfl) ?_; refine PL.nil ?_; refine thA_n ?_; refine PC.ret ?_; refine thA_r ?_; obtain rfl := some_in hh0; exact FinA.mk (r := bA false) (bl := []) [] (.inl rfl) rfl (rl := [.tmp 4]) (.tmp .nil) rfl rfl rfl (.t _) trivial ⟨rfl, rfl⟩
  refine PC.region ?_; refine PL.op rfl (Rd.moveT rfl) ?_; refine PL.op rfl (Rd.lss rfl rfl) ?_; refine PL.op rfl (Rd.moveT rfl) ?_; refine PL.guard_on rfl h_27 ?_; refine PL.op rfl (Rd.loadBox rfl rfl rfl) ?_; refine PL.guard_on rfl h_27 ?_; refine PL.op rfl (Rd.loadBox rfl rfl rfl) ?_; refine PL.guard_on rfl h_27 ?_; refine PL.callM true [] (w_L_eqHeap N r14.1 r8.1 r28 h_29) rfl Try.call11 rfl ⟨.aggL ⟨(Sb.fzD rfl rfl (by first | decide | exact List.not_mem_nil) (by first | decide | exact List.not_mem_nil) rfl rfl rfl), trivial⟩, .aggL ⟨.own rfl (by first | decide | exact List.not_mem_nil) rfl rfl, trivial⟩, trivial⟩ rfl trivial (fun _ => ⟨trivial, flat_nil⟩) ?_; refine PL.guard_on rfl h_27 ?_; refine PL.op rfl (Rd.unnot rfl) ?_; refine PL.op rfl (Rd.pick_f rfl h_27) ?_; refine PL.op rfl (Rd.moveT rfl) ?_; refine PL.guard_on rfl (not_t h_30) ?_; refine PL.op rfl (Rd.moveT rfl) ?_; refine PL.guard_on rfl (not_t h_30) ?_; refine PL.op rfl (Rd.moveT rfl) ?_; refine PL.guard_on rfl (not_t h_30) ?_; refine PL.op rfl (Rd.neqB rfl rfl) ?_; refine PL.op rfl (Rd.pick_f rfl (not_t h_30)) ?_; refine PL.nil ?_; refine thA_n ?_; refine PC.cond_false rfl (not_t h_19) ?_; refine PC.skip ?_; refine thA_n ?_; refine PC.seq ?_; refine PC.region ?_; refine PL.op rfl (Rd.asnT rfl) ?_; refine PL.nil ?_; refine thA_n ?_; refine PC.seq ?_; obtain ⟨r31, h_32, hh0⟩ := bind_some hh0; refine PC.region ?_; refine PL.op rfl (Rd.loadBox rfl rfl rfl) ?_; refine PL.op rfl (Rd.moveT rfl) ?_; refine PL.callM false [8, 9] (w_L_markHeap N r14.1 (1 : Int) r31 h_32) rfl Try.call12 rfl ⟨.aggL ⟨.os rfl, trivial⟩, .t _, trivial⟩ rfl ⟨⟨_, rfl, rfl, rfl, .mx (sb_dL rfl 0 _)⟩, ⟨_, rfl, rfl, rfl, .fm _⟩, trivial⟩ (fun h => by cases h) ?_; refine PL.nm (iA r31.1) [some ⟨.mx [sL p_aH.pages], 24, 0⟩, some ⟨.mx [iA p_aR.page, iA p_aR.slot], 26, 0⟩, some ⟨.mx [.os 3 0 r8.1.pages.length], 30, 0⟩, some ⟨.tr (eL r8.1.pages), 50, 1⟩, some ⟨.mx [.os 5 0 r10.pages.length], 30, 0⟩, some ⟨.mx (dL 6 0 r25.2), 50, 1⟩, some ⟨.fm (fam r25.2), 70, 2⟩, some ⟨.mx [.os 8 0 r14.1.pages.length], 30, 0⟩, some ⟨.mx (dL 9 0 r31.2), 50, 1⟩, some ⟨.fm (fam r31.2), 70, 2⟩, some ⟨.mx (dL 11 0 r20.pages), 50, 1⟩, some ⟨.fm (fam r20.pages), 70, 2⟩] rfl (by show ([some ⟨.mx [sL p_aH.pages], 24, 0⟩, some ⟨.mx [iA p_aR.page, iA p_aR.slot], 26, 0⟩, some ⟨.mx [.os 3 0 r8.1.pages.length], 30, 0⟩, some ⟨.tr (eL r8.1.pages), 50, 1⟩, some ⟨.mx [.os 5 0 r10.pages.length], 30, 0⟩, some ⟨.mx (dL 6 0 r25.2), 50, 1⟩, some ⟨.fm (fam r25.2), 70, 2⟩, some ⟨.mx [.os 8 0 r14.1.pages.length], 30, 0⟩, some ⟨.mx (AV.renL (thet [8, 9] 12) (dL 1 0 r31.2)), 50, 1⟩, some ⟨.fm (fam r31.2), 70, 2⟩, some ⟨.mx (dL 11 0 r20.pages), 50, 1⟩, some ⟨.fm (fam r20.pages), 70, 2⟩] : Obs) = _; simp only [dL_ren]; rfl) ?_; refine PL.nm (iA r31.1) [some ⟨.mx [sL p_aH.pages], 24, 0⟩, some ⟨.mx [iA p_aR.page, iA p_aR.slot], 26, 0⟩, some ⟨.mx [.os 3 0 r8.1.pages.length], 30, 0⟩, some ⟨.tr (eL r8.1.pages), 50, 1⟩, some ⟨.mx [.os 5 0 r10.pages.length], 30, 0⟩, some ⟨.mx (dL 6 0 r25.2), 50, 1⟩, some ⟨.fm (fam r25.2), 70, 2⟩, some ⟨.mx [.os 8 0 r14.1.pages.length], 30, 0⟩, some ⟨.mx (dL 9 0 r31.2), 50, 1⟩, some ⟨.fm (fam r31.2), 70, 2⟩, some ⟨.mx (dL 11 0 r20.pages), 50, 1⟩, some ⟨.fm (fam r20.pages), 70, 2⟩] rfl rfl ?_; refine PL.op rfl (Rd.asnT rfl) ?_; refine PL.nil ?_; refine thA_n ?_; refine PC.seq ?_; refine PC.region ?_; refine PL.op rfl (Rd.asnT rfl) ?_; refine PL.nil ?_; refine thA_n ?_; refine PC.seq ?_; obtain ⟨r33, h_34, hh0⟩ := bind_some hh0; refine PC.region ?_; refine PL.op rfl (Rd.loadBox rfl rfl rfl) ?_; refine PL.op rfl (Rd.moveT rfl) ?_; refine PL.callM true [] (w_L_heldHeap N (I_Heap.mk r31.2) (1 : Int) r33 h_34) rfl Try.call13 rfl ⟨.aggL ⟨(Sb.fzD rfl rfl (by first | decide | exact List.not_mem_nil) (by first | decide | exact List.not_mem_nil) (by simp only [List.length_set, len_L_markHeap N _ _ _ h_32]) rfl rfl), trivial⟩, .t _, trivial⟩ rfl trivial (fun _ => ⟨trivial, flat_nil⟩) ?_; refine PL.op rfl (Rd.asnT rfl) ?_; refine PL.nil ?_; refine thA_n ?_; (iterate 2 refine PC.seq ?_); refine PC.region ?_; refine PL.op rfl (Rd.moveT rfl) ?_; refine PL.op rfl (Rd.lss rfl rfl) ?_; refine PL.nil ?_; refine thA_n ?_; rcases cond_some hh0 with ⟨h_35, hh0⟩ | ⟨h_35, hh0⟩
  · refine PC.cond_true rfl h_35 ?_; refine PC.seq ?_; refine PC.region ?_; refine PL.op rfl (Rd.asnT rfl) ?_; refine PL.nil ?_; refine thA_n ?_; refine PC.ret ?_; refine thA_r ?_; obtain rfl := some_in hh0; exact FinA.mk (r := bA false) (bl := []) [] (.inl rfl) rfl (rl := [.tmp 4]) (.tmp .nil) rfl rfl rfl (.t _) trivial ⟨rfl, rfl⟩
  refine PC.cond_false rfl h_35 ?_; refine PC.skip ?_; refine thA_n ?_; (iterate 2 refine PC.seq ?_); refine PC.region ?_; (iterate 2 refine PL.op rfl (Rd.moveT rfl) ?_); refine PL.op rfl (Rd.neq rfl rfl) ?_; refine PL.nil ?_; refine thA_n ?_; rcases cond_some hh0 with ⟨h_36, hh0⟩ | ⟨h_36, hh0⟩; rotate_left
  · refine PC.cond_true rfl (not_f h_36) ?_; refine PC.seq ?_; refine PC.region ?_; refine PL.op rfl (Rd.asnT rfl) ?_; refine PL.nil ?_; refine thA_n ?_; refine PC.ret ?_; refine thA_r ?_; obtain rfl := some_in hh0; exact FinA.mk (r := bA false) (bl := []) [] (.inl rfl) rfl (rl := [.tmp 4]) (.tmp .nil) rfl rfl rfl (.t _) trivial ⟨rfl, rfl⟩
  refine PC.cond_false rfl (not_t h_36) ?_; refine PC.skip ?_; refine thA_n ?_; obtain ⟨r37, h_38, hh0⟩ := bind_some hh0; obtain ⟨r39, h_40, hh0⟩ := bind_some hh0; obtain ⟨r41, h_42, hh0⟩ := bind_some hh0; refine PC.cut hs (fun _ : Unit => [(6, .op 0 0), (7, bA r8.2), (9, .op 2 0), (12, iA r31.1), (14, .op 5 0), (15, bA r41.2)]) (fun _ => [⟨.mx [.os 1 0 r8.1.pages.length], 30, 0⟩, ⟨.tr (eL r8.1.pages), 50, 1⟩, ⟨.mx [.os 3 0 r14.1.pages.length], 30, 0⟩, ⟨.mx (dL 4 0 r31.2), 50, 1⟩, ⟨.fm (fam r31.2), 70, 2⟩, ⟨.mx [.os 6 0 r41.1.pages.length], 30, 0⟩, ⟨.mx (dL 7 0 r41.1.pages), 50, 1⟩, ⟨.fm (fam r41.1.pages), 70, 2⟩]) (fun _ => True) ?_ ?_
  · refine PC.any (id := 24) 11 (.seg [0, 2] (.fork (.seg [1] (.fork (.seg [3] (.fork (.seg [4, 5, 6, 7, 8, 9, 10] .done) (.seg [8, 4, 5, 6, 7, 9, 10] .done))) (.seg [8, 3, 4, 5, 6, 7, 9, 10] .done))) (.seg [8, 1, 3, 4, 5, 6, 7, 9, 10] .done))) [] rfl (by kernel_rfl) rfl ?_; refine PT.seg ?_; (iterate 2 refine PR.op rfl (Rd.loadBox rfl rfl rfl) ?_); refine PR.nil ?_; refine PT.fork ?_ ?_; rotate_left
    · refine PT.seg ?_; refine PR.efX rfl rfl (Ef.alloc rfl rfl) ?_; refine PR.nm (.op 12 0) [some ⟨.mx [sL p_aH.pages], 24, 0⟩, some ⟨.mx [iA p_aR.page, iA p_aR.slot], 26, 0⟩, some ⟨.mx [.os 3 0 r8.1.pages.length], 30, 0⟩, some ⟨.tr (eL r8.1.pages), 50, 1⟩, some ⟨.mx [.os 5 0 r10.pages.length], 30, 0⟩, some ⟨.mx (dL 6 0 r25.2), 50, 1⟩, some ⟨.fm (fam r25.2), 70, 2⟩, some ⟨.mx [.os 8 0 r14.1.pages.length], 30, 0⟩, some ⟨.mx (dL 9 0 r31.2), 50, 1⟩, some ⟨.fm (fam r31.2), 70, 2⟩, some ⟨.mx (dL 11 0 r20.pages), 50, 1⟩, some ⟨.fm (fam r20.pages), 70, 2⟩, some ⟨.mx [.t (.v (.slice none 0 0))], 30, 0⟩] rfl rfl ?_; refine PR.callM false [] (w_L_toHeap N p_aH r37 h_38) rfl Try.call8 rfl ⟨.aggL ⟨.t _, trivial⟩, trivial⟩ rfl trivial (fun h => by cases h) rfl ?_; refine PR.nm (.agg [.os 13 0 r37.pages.length]) [some ⟨.mx [sL p_aH.pages], 24, 0⟩, some ⟨.mx [iA p_aR.page, iA p_aR.slot], 26, 0⟩, some ⟨.mx [.os 3 0 r8.1.pages.length], 30, 0⟩, some ⟨.tr (eL r8.1.pages), 50, 1⟩, some ⟨.mx [.os 5 0 r10.pages.length], 30, 0⟩, some ⟨.mx (dL 6 0 r25.2), 50, 1⟩, some ⟨.fm (fam r25.2), 70, 2⟩, some ⟨.mx [.os 8 0 r14.1.pages.length], 30, 0⟩, some ⟨.mx (dL 9 0 r31.2), 50, 1⟩, some ⟨.fm (fam r31.2), 70, 2⟩, some ⟨.mx (dL 11 0 r20.pages), 50, 1⟩, some ⟨.fm (fam r20.pages), 70, 2⟩, some ⟨.mx [.t (.v (.slice none 0 0))], 30, 0⟩, some ⟨.mx (dL 14 0 r37.pages), 50, 1⟩, some ⟨.fm (fam r37.pages), 70, 2⟩] rfl (by show ([some ⟨.mx [sL p_aH.pages], 24, 0⟩, some ⟨.mx [iA p_aR.page, iA p_aR.slot], 26, 0⟩, some ⟨.mx [.os 3 0 r8.1.pages.length], 30, 0⟩, some ⟨.tr (eL r8.1.pages), 50, 1⟩, some ⟨.mx [.os 5 0 r10.pages.length], 30, 0⟩, some ⟨.mx (dL 6 0 r25.2), 50, 1⟩, some ⟨.fm (fam r25.2), 70, 2⟩, some ⟨.mx [.os 8 0 r14.1.pages.length], 30, 0⟩, some ⟨.mx (dL 9 0 r31.2), 50, 1⟩, some ⟨.fm (fam r31.2), 70, 2⟩, some ⟨.mx (dL 11 0 r20.pages), 50, 1⟩, some ⟨.fm (fam r20.pages), 70, 2⟩, some ⟨.mx [.t (.v (.slice none 0 0))], 30, 0⟩, some ⟨.mx (AV.renL (thet [] 13) (dL 1 0 r37.pages)), 50, 1⟩, some ⟨.fm (fam r37.pages), 70, 2⟩] : Obs) = _; simp only [dL_ren]; rfl) ?_; refine PR.nm (.agg [.os 13 0 r37.pages.length]) [some ⟨.mx [sL p_aH.pages], 24, 0⟩, some ⟨.mx [iA p_aR.page, iA p_aR.slot], 26, 0⟩, some ⟨.mx [.os 3 0 r8.1.pages.length], 30, 0⟩, some ⟨.tr (eL r8.1.pages), 50, 1⟩, some ⟨.mx [.os 5 0 r10.pages.length], 30, 0⟩, some ⟨.mx (dL 6 0 r25.2), 50, 1⟩, some ⟨.fm (fam r25.2), 70, 2⟩, some ⟨.mx [.os 8 0 r14.1.pages.length], 30, 0⟩, some ⟨.mx (dL 9 0 r31.2), 50, 1⟩, some ⟨.fm (fam r31.2), 70, 2⟩, some ⟨.mx (dL 11 0 r20.pages), 50, 1⟩, some ⟨.fm (fam r20.pages), 70, 2⟩, some ⟨.mx [.t (.v (.slice none 0 0))], 30, 0⟩, some ⟨.mx (dL 14 0 r37.pages), 50, 1⟩, some ⟨.fm (fam r37.pages), 70, 2⟩] rfl rfl ?_; refine PR.callM false [] (w_L_toRid N p_aR r39 h_40) rfl Try.call9 rfl ⟨.aggL ⟨.t _, .t _, trivial⟩, trivial⟩ rfl trivial (fun h => by cases h) rfl ?_; refine PR.callM true [] (w_I_HeapDelete N r37 r39 r41 h_42) rfl Try.call10 rfl ⟨.aggL ⟨(Sb.fzD rfl rfl (by first | decide | exact List.not_mem_nil) (by first | decide | exact List.not_mem_nil) rfl rfl rfl), trivial⟩, .aggL ⟨.t _, .t _, trivial⟩, trivial⟩ rfl trivial (fun _ => ⟨⟨⟨trivial, trivial⟩, trivial, trivial⟩, (flat_cons flat_dp (flat_cons flat_fm flat_nil))⟩) rfl ?_; refine PR.nm (.tup [.agg [.os 15 0 r41.1.pages.length], bA r41.2]) [some ⟨.mx [sL p_aH.pages], 24, 0⟩, some ⟨.mx [iA p_aR.page, iA p_aR.slot], 26, 0⟩, some ⟨.mx [.os 3 0 r8.1.pages.length], 30, 0⟩, some ⟨.tr (eL r8.1.pages), 50, 1⟩, some ⟨.mx [.os 5 0 r10.pages.length], 30, 0⟩, some ⟨.mx (dL 6 0 r25.2), 50, 1⟩, some ⟨.fm (fam r25.2), 70, 2⟩, some ⟨.mx [.os 8 0 r14.1.pages.length], 30, 0⟩, some ⟨.mx (dL 9 0 r31.2), 50, 1⟩, some ⟨.fm (fam r31.2), 70, 2⟩, some ⟨.mx (dL 11 0 r20.pages), 50, 1⟩, some ⟨.fm (fam r20.pages), 70, 2⟩, some ⟨.mx [.t (.v (.slice none 0 0))], 30, 0⟩, some ⟨.mx (dL 14 0 r37.pages), 50, 1⟩, some ⟨.fm (fam r37.pages), 70, 2⟩, some ⟨.mx (dL 16 0 r41.1.pages), 50, 1⟩, some ⟨.fm (fam r41.1.pages), 70, 2⟩] rfl (by show ([some ⟨.mx [sL p_aH.pages], 24, 0⟩, some ⟨.mx [iA p_aR.page, iA p_aR.slot], 26, 0⟩, some ⟨.mx [.os 3 0 r8.1.pages.length], 30, 0⟩, some ⟨.tr (eL r8.1.pages), 50, 1⟩, some ⟨.mx [.os 5 0 r10.pages.length], 30, 0⟩, some ⟨.mx (dL 6 0 r25.2), 50, 1⟩, some ⟨.fm (fam r25.2), 70, 2⟩, some ⟨.mx [.os 8 0 r14.1.pages.length], 30, 0⟩, some ⟨.mx (dL 9 0 r31.2), 50, 1⟩, some ⟨.fm (fam r31.2), 70, 2⟩, some ⟨.mx (dL 11 0 r20.pages), 50, 1⟩, some ⟨.fm (fam r20.pages), 70, 2⟩, some ⟨.mx [.t (.v (.slice none 0 0))], 30, 0⟩, some ⟨.mx (dL 14 0 r37.pages), 50, 1⟩, some ⟨.fm (fam r37.pages), 70, 2⟩, some ⟨.mx (AV.renL (thet [] 15) (dL 1 0 r41.1.pages)), 50, 1⟩, some ⟨.fm (fam r41.1.pages), 70, 2⟩] : Obs) = _; simp only [dL_ren]; rfl) ?_; refine PR.nm (.tup [.agg [.os 15 0 r41.1.pages.length], bA r41.2]) [some ⟨.mx [sL p_aH.pages], 24, 0⟩, some ⟨.mx [iA p_aR.page, iA p_aR.slot], 26, 0⟩, some ⟨.mx [.os 3 0 r8.1.pages.length], 30, 0⟩, some ⟨.tr (eL r8.1.pages), 50, 1⟩, some ⟨.mx [.os 5 0 r10.pages.length], 30, 0⟩, some ⟨.mx (dL 6 0 r25.2), 50, 1⟩, some ⟨.fm (fam r25.2), 70, 2⟩, some ⟨.mx [.os 8 0 r14.1.pages.length], 30, 0⟩, some ⟨.mx (dL 9 0 r31.2), 50, 1⟩, some ⟨.fm (fam r31.2), 70, 2⟩, some ⟨.mx (dL 11 0 r20.pages), 50, 1⟩, some ⟨.fm (fam r20.pages), 70, 2⟩, some ⟨.mx [.t (.v (.slice none 0 0))], 30, 0⟩, some ⟨.mx (dL 14 0 r37.pages), 50, 1⟩, some ⟨.fm (fam r37.pages), 70, 2⟩, some ⟨.mx (dL 16 0 r41.1.pages), 50, 1⟩, some ⟨.fm (fam r41.1.pages), 70, 2⟩] rfl rfl ?_; refine PR.op rfl (Rd.moveU rfl) ?_; (iterate 2 refine PR.op rfl (Rd.extract rfl rfl) ?_); refine PR.store rfl rfl rfl rfl rfl rfl rfl rfl ?_; refine PR.nO [some ⟨.mx [sL p_aH.pages], 24, 0⟩, some ⟨.mx [iA p_aR.page, iA p_aR.slot], 26, 0⟩, some ⟨.mx [.os 3 0 r8.1.pages.length], 30, 0⟩, some ⟨.tr (eL r8.1.pages), 50, 1⟩, some ⟨.mx [.os 5 0 r10.pages.length], 30, 0⟩, some ⟨.mx (dL 6 0 r25.2), 50, 1⟩, some ⟨.fm (fam r25.2), 70, 2⟩, some ⟨.mx [.os 8 0 r14.1.pages.length], 30, 0⟩, some ⟨.mx (dL 9 0 r31.2), 50, 1⟩, some ⟨.fm (fam r31.2), 70, 2⟩, some ⟨.mx (dL 11 0 r20.pages), 50, 1⟩, some ⟨.fm (fam r20.pages), 70, 2⟩, some ⟨.mx [.os 15 0 r41.1.pages.length], 30, 0⟩, some ⟨.mx (dL 14 0 r37.pages), 50, 1⟩, some ⟨.fm (fam r37.pages), 70, 2⟩, some ⟨.mx (dL 16 0 r41.1.pages), 50, 1⟩, some ⟨.fm (fam r41.1.pages), 70, 2⟩] rfl ?_; refine PR.op rfl (Rd.asnT rfl) ?_; refine PR.nil ?_; refine PT.done ?_; refine PL.nil ?_; refine thA_n ?_; exact ⟨(), trivial, [some 2, some 3, some 7, some 8, some 9, some 12, some 15, some 16], ⟨rfl, rfl, ⟨⟨_, rfl, rfl, rfl, .mx ⟨.os rfl, trivial⟩⟩, ⟨_, rfl, rfl, rfl, .tr _⟩, ⟨_, rfl, rfl, rfl, .mx ⟨.osE rfl (by simp only [List.length_set, len_L_markHeap N _ _ _ h_32]), trivial⟩⟩, ⟨_, rfl, rfl, rfl, .mx (sb_dL rfl 0 _)⟩, ⟨_, rfl, rfl, rfl, .fm _⟩, ⟨_, rfl, rfl, rfl, .mx ⟨.os rfl, trivial⟩⟩, ⟨_, rfl, rfl, rfl, .mx (sb_dL rfl 0 _)⟩, ⟨_, rfl, rfl, rfl, .fm _⟩, trivial⟩, ⟨.op rfl, .t _, .op rfl, .t _, .op rfl, .t _, trivial⟩⟩⟩
    refine PT.seg ?_; refine PR.callM false [] (w_L_toHeap N p_aH r37 h_38) rfl Try.call8 rfl ⟨.aggL ⟨.t _, trivial⟩, trivial⟩ rfl trivial (fun h => by cases h) rfl ?_; refine PR.nm (.agg [.os 12 0 r37.pages.length]) [some ⟨.mx [sL p_aH.pages], 24, 0⟩, some ⟨.mx [iA p_aR.page, iA p_aR.slot], 26, 0⟩, some ⟨.mx [.os 3 0 r8.1.pages.length], 30, 0⟩, some ⟨.tr (eL r8.1.pages), 50, 1⟩, some ⟨.mx [.os 5 0 r10.pages.length], 30, 0⟩, some ⟨.mx (dL 6 0 r25.2), 50, 1⟩, some ⟨.fm (fam r25.2), 70, 2⟩, some ⟨.mx [.os 8 0 r14.1.pages.length], 30, 0⟩, some ⟨.mx (dL 9 0 r31.2), 50, 1⟩, some ⟨.fm (fam r31.2), 70, 2⟩, some ⟨.mx (dL 11 0 r20.pages), 50, 1⟩, some ⟨.fm (fam r20.pages), 70, 2⟩, some ⟨.mx (dL 13 0 r37.pages), 50, 1⟩, some ⟨.fm (fam r37.pages), 70, 2⟩] rfl (by show ([some ⟨.mx [sL p_aH.pages], 24, 0⟩, some ⟨.mx [iA p_aR.page, iA p_aR.slot], 26, 0⟩, some ⟨.mx [.os 3 0 r8.1.pages.length], 30, 0⟩, some ⟨.tr (eL r8.1.pages), 50, 1⟩, some ⟨.mx [.os 5 0 r10.pages.length], 30, 0⟩, some ⟨.mx (dL 6 0 r25.2), 50, 1⟩, some ⟨.fm (fam r25.2), 70, 2⟩, some ⟨.mx [.os 8 0 r14.1.pages.length], 30, 0⟩, some ⟨.mx (dL 9 0 r31.2), 50, 1⟩, some ⟨.fm (fam r31.2), 70, 2⟩, some ⟨.mx (dL 11 0 r20.pages), 50, 1⟩, some ⟨.fm (fam r20.pages), 70, 2⟩, some ⟨.mx (AV.renL (thet [] 12) (dL 1 0 r37.pages)), 50, 1⟩, some ⟨.fm (fam r37.pages), 70, 2⟩] : Obs) = _; simp only [dL_ren]; rfl) ?_; refine PR.nm (.agg [.os 12 0 r37.pages.length]) [some ⟨.mx [sL p_aH.pages], 24, 0⟩, some ⟨.mx [iA p_aR.page, iA p_aR.slot], 26, 0⟩, some ⟨.mx [.os 3 0 r8.1.pages.length], 30, 0⟩, some ⟨.tr (eL r8.1.pages), 50, 1⟩, some ⟨.mx [.os 5 0 r10.pages.length], 30, 0⟩, some ⟨.mx (dL 6 0 r25.2), 50, 1⟩, some ⟨.fm (fam r25.2), 70, 2⟩, some ⟨.mx [.os 8 0 r14.1.pages.length], 30, 0⟩, some ⟨.mx (dL 9 0 r31.2), 50, 1⟩, some ⟨.fm (fam r31.2), 70, 2⟩, some ⟨.mx (dL 11 0 r20.pages), 50, 1⟩, some ⟨.fm (fam r20.pages), 70, 2⟩, some ⟨.mx (dL 13 0 r37.pages), 50, 1⟩, some ⟨.fm (fam r37.pages), 70, 2⟩] rfl rfl ?_; refine PR.nil ?_; refine PT.fork ?_ ?_; rotate_left
    · refine PT.seg ?_; refine PR.efX rfl rfl (Ef.alloc rfl rfl) ?_; refine PR.nm (.op 14 0) [some ⟨.mx [sL p_aH.pages], 24, 0⟩, some ⟨.mx [iA p_aR.page, iA p_aR.slot], 26, 0⟩, some ⟨.mx [.os 3 0 r8.1.pages.length], 30, 0⟩, some ⟨.tr (eL r8.1.pages), 50, 1⟩, some ⟨.mx [.os 5 0 r10.pages.length], 30, 0⟩, some ⟨.mx (dL 6 0 r25.2), 50, 1⟩, some ⟨.fm (fam r25.2), 70, 2⟩, some ⟨.mx [.os 8 0 r14.1.pages.length], 30, 0⟩, some ⟨.mx (dL 9 0 r31.2), 50, 1⟩, some ⟨.fm (fam r31.2), 70, 2⟩, some ⟨.mx (dL 11 0 r20.pages), 50, 1⟩, some ⟨.fm (fam r20.pages), 70, 2⟩, some ⟨.mx (dL 13 0 r37.pages), 50, 1⟩, some ⟨.fm (fam r37.pages), 70, 2⟩, some ⟨.mx [.t (.v (.slice none 0 0))], 30, 0⟩] rfl rfl ?_; refine PR.callM false [] (w_L_toRid N p_aR r39 h_40) rfl Try.call9 rfl ⟨.aggL ⟨.t _, .t _, trivial⟩, trivial⟩ rfl trivial (fun h => by cases h) rfl ?_; refine PR.callM true [] (w_I_HeapDelete N r37 r39 r41 h_42) rfl Try.call10 rfl ⟨.aggL ⟨(Sb.fzD rfl rfl (by first | decide | exact List.not_mem_nil) (by first | decide | exact List.not_mem_nil) rfl rfl rfl), trivial⟩, .aggL ⟨.t _, .t _, trivial⟩, trivial⟩ rfl trivial (fun _ => ⟨⟨⟨trivial, trivial⟩, trivial, trivial⟩, (flat_cons flat_dp (flat_cons flat_fm flat_nil))⟩) rfl ?_; refine PR.nm (.tup [.agg [.os 15 0 r41.1.pages.length], bA r41.2]) [some ⟨.mx [sL p_aH.pages], 24, 0⟩, some ⟨.mx [iA p_aR.page, iA p_aR.slot], 26, 0⟩, some ⟨.mx [.os 3 0 r8.1.pages.length], 30, 0⟩, some ⟨.tr (eL r8.1.pages), 50, 1⟩, some ⟨.mx [.os 5 0 r10.pages.length], 30, 0⟩, some ⟨.mx (dL 6 0 r25.2), 50, 1⟩, some ⟨.fm (fam r25.2), 70, 2⟩, some ⟨.mx [.os 8 0 r14.1.pages.length], 30, 0⟩, some ⟨.mx (dL 9 0 r31.2), 50, 1⟩, some ⟨.fm (fam r31.2), 70, 2⟩, some ⟨.mx (dL 11 0 r20.pages), 50, 1⟩, some ⟨.fm (fam r20.pages), 70, 2⟩, some ⟨.mx (dL 13 0 r37.pages), 50, 1⟩, some ⟨.fm (fam r37.pages), 70, 2⟩, some ⟨.mx [.t (.v (.slice none 0 0))], 30, 0⟩, some ⟨.mx (dL 16 0 r41.1.pages), 50, 1⟩, some ⟨.fm (fam r41.1.pages), 70, 2⟩] rfl (by show ([some ⟨.mx [sL p_aH.pages], 24, 0⟩, some ⟨.mx [iA p_aR.page, iA p_aR.slot], 26, 0⟩, some ⟨.mx [.os 3 0 r8.1.pages.length], 30, 0⟩, some ⟨.tr (eL r8.1.pages), 50, 1⟩, some ⟨.mx [.os 5 0 r10.pages.length], 30, 0⟩, some ⟨.mx (dL 6 0 r25.2), 50, 1⟩, some ⟨.fm (fam r25.2), 70, 2⟩, some ⟨.mx [.os 8 0 r14.1.pages.length], 30, 0⟩, some ⟨.mx (dL 9 0 r31.2), 50, 1⟩, some ⟨.fm (fam r31.2), 70, 2⟩, some ⟨.mx (dL 11 0 r20.pages), 50, 1⟩, some ⟨.fm (fam r20.pages), 70, 2⟩, some ⟨.mx (dL 13 0 r37.pages), 50, 1⟩, some ⟨.fm (fam r37.pages), 70, 2⟩, some ⟨.mx [.t (.v (.slice none 0 0))], 30, 0⟩, some ⟨.mx (AV.renL (thet [] 15) (dL 1 0 r41.1.pages)), 50, 1⟩, some ⟨.fm (fam r41.1.pages), 70, 2⟩] : Obs) = _; simp only [dL_ren]; rfl) ?_; refine PR.nm (.tup [.agg [.os 15 0 r41.1.pages.length], bA r41.2]) [some ⟨.mx [sL p_aH.pages], 24, 0⟩, some ⟨.mx [iA p_aR.page, iA p_aR.slot], 26, 0⟩, some ⟨.mx [.os 3 0 r8.1.pages.length], 30, 0⟩, some ⟨.tr (eL r8.1.pages), 50, 1⟩, some ⟨.mx [.os 5 0 r10.pages.length], 30, 0⟩, some ⟨.mx (dL 6 0 r25.2), 50, 1⟩, some ⟨.fm (fam r25.2), 70, 2⟩, some ⟨.mx [.os 8 0 r14.1.pages.length], 30, 0⟩, some ⟨.mx (dL 9 0 r31.2), 50, 1⟩, some ⟨.fm (fam r31.2), 70, 2⟩, some ⟨.mx (dL 11 0 r20.pages), 50, 1⟩, some ⟨.fm (fam r20.pages), 70, 2⟩, some ⟨.mx (dL 13 0 r37.pages), 50, 1⟩, some ⟨.fm (fam r37.pages), 70, 2⟩, some ⟨.mx [.t (.v (.slice none 0 0))], 30, 0⟩, some ⟨.mx (dL 16 0 r41.1.pages), 50, 1⟩, some ⟨.fm (fam r41.1.pages), 70, 2⟩] rfl rfl ?_; refine PR.op rfl (Rd.moveU rfl) ?_; (iterate 2 refine PR.op rfl (Rd.extract rfl rfl) ?_); refine PR.store rfl rfl rfl rfl rfl rfl rfl rfl ?_; refine PR.nO [some ⟨.mx [sL p_aH.pages], 24, 0⟩, some ⟨.mx [iA p_aR.page, iA p_aR.slot], 26, 0⟩, some ⟨.mx [.os 3 0 r8.1.pages.length], 30, 0⟩, some ⟨.tr (eL r8.1.pages), 50, 1⟩, some ⟨.mx [.os 5 0 r10.pages.length], 30, 0⟩, some ⟨.mx (dL 6 0 r25.2), 50, 1⟩, some ⟨.fm (fam r25.2), 70, 2⟩, some ⟨.mx [.os 8 0 r14.1.pages.length], 30, 0⟩, some ⟨.mx (dL 9 0 r31.2), 50, 1⟩, some ⟨.fm (fam r31.2), 70, 2⟩, some ⟨.mx (dL 11 0 r20.pages), 50, 1⟩, some ⟨.fm (fam r20.pages), 70, 2⟩, some ⟨.mx (dL 13 0 r37.pages), 50, 1⟩, some ⟨.fm (fam r37.pages), 70, 2⟩, some ⟨.mx [.os 15 0 r41.1.pages.length], 30, 0⟩, some ⟨.mx (dL 16 0 r41.1.pages), 50, 1⟩, some ⟨.fm (fam r41.1.pages), 70, 2⟩] rfl ?_; refine PR.op rfl (Rd.asnT rfl) ?_; refine PR.nil ?_; refine PT.done ?_; refine PL.nil ?_; refine thA_n ?_; exact ⟨(), trivial, [some 2, some 3, some 7, some 8, some 9, some 14, some 15, some 16], ⟨rfl, rfl, ⟨⟨_, rfl, rfl, rfl, .mx ⟨.os rfl, trivial⟩⟩, ⟨_, rfl, rfl, rfl, .tr _⟩, ⟨_, rfl, rfl, rfl, .mx ⟨.osE rfl (by simp only [List.length_set, len_L_markHeap N _ _ _ h_32]), trivial⟩⟩, ⟨_, rfl, rfl, rfl, .mx (sb_dL rfl 0 _)⟩, ⟨_, rfl, rfl, rfl, .fm _⟩, ⟨_, rfl, rfl, rfl, .mx ⟨.os rfl, trivial⟩⟩, ⟨_, rfl, rfl, rfl, .mx (sb_dL rfl 0 _)⟩, ⟨_, rfl, rfl, rfl, .fm _⟩, trivial⟩, ⟨.op rfl, .t _, .op rfl, .t _, .op rfl, .t _, trivial⟩⟩⟩
    refine PT.seg ?_; refine PR.callM false [] (w_L_toRid N p_aR r39 h_40) rfl Try.call9 rfl ⟨.aggL ⟨.t _, .t _, trivial⟩, trivial⟩ rfl trivial (fun h => by cases h) rfl ?_; refine PR.nil ?_; refine PT.fork ?_ ?_
    · refine PT.seg ?_; refine PR.callM true [] (w_I_HeapDelete N r37 r39 r41 h_42) rfl Try.call10 rfl ⟨.aggL ⟨(Sb.fzD rfl rfl (by first | decide | exact List.not_mem_nil) (by first | decide | exact List.not_mem_nil) rfl rfl rfl), trivial⟩, .aggL ⟨.t _, .t _, trivial⟩, trivial⟩ rfl trivial (fun _ => ⟨⟨⟨trivial, trivial⟩, trivial, trivial⟩, (flat_cons flat_dp (flat_cons flat_fm flat_nil))⟩) rfl ?_; refine PR.nm (.tup [.agg [.os 14 0 r41.1.pages.length], bA r41.2]) [some ⟨.mx [sL p_aH.pages], 24, 0⟩, some ⟨.mx [iA p_aR.page, iA p_aR.slot], 26, 0⟩, some ⟨.mx [.os 3 0 r8.1.pages.length], 30, 0⟩, some ⟨.tr (eL r8.1.pages), 50, 1⟩, some ⟨.mx [.os 5 0 r10.pages.length], 30, 0⟩, some ⟨.mx (dL 6 0 r25.2), 50, 1⟩, some ⟨.fm (fam r25.2), 70, 2⟩, some ⟨.mx [.os 8 0 r14.1.pages.length], 30, 0⟩, some ⟨.mx (dL 9 0 r31.2), 50, 1⟩, some ⟨.fm (fam r31.2), 70, 2⟩, some ⟨.mx (dL 11 0 r20.pages), 50, 1⟩, some ⟨.fm (fam r20.pages), 70, 2⟩, some ⟨.mx (dL 13 0 r37.pages), 50, 1⟩, some ⟨.fm (fam r37.pages), 70, 2⟩, some ⟨.mx (dL 15 0 r41.1.pages), 50, 1⟩, some ⟨.fm (fam r41.1.pages), 70, 2⟩] rfl (by show ([some ⟨.mx [sL p_aH.pages], 24, 0⟩, some ⟨.mx [iA p_aR.page, iA p_aR.slot], 26, 0⟩, some ⟨.mx [.os 3 0 r8.1.pages.length], 30, 0⟩, some ⟨.tr (eL r8.1.pages), 50, 1⟩, some ⟨.mx [.os 5 0 r10.pages.length], 30, 0⟩, some ⟨.mx (dL 6 0 r25.2), 50, 1⟩, some ⟨.fm (fam r25.2), 70, 2⟩, some ⟨.mx [.os 8 0 r14.1.pages.length], 30, 0⟩, some ⟨.mx (dL 9 0 r31.2), 50, 1⟩, some ⟨.fm (fam r31.2), 70, 2⟩, some ⟨.mx (dL 11 0 r20.pages), 50, 1⟩, some ⟨.fm (fam r20.pages), 70, 2⟩, some ⟨.mx (dL 13 0 r37.pages), 50, 1⟩, some ⟨.fm (fam r37.pages), 70, 2⟩, some ⟨.mx (AV.renL (thet [] 14) (dL 1 0 r41.1.pages)), 50, 1⟩, some ⟨.fm (fam r41.1.pages), 70, 2⟩] : Obs) = _; simp only [dL_ren]; rfl) ?_; refine PR.nm (.tup [.agg [.os 14 0 r41.1.pages.length], bA r41.2]) [some ⟨.mx [sL p_aH.pages], 24, 0⟩, some ⟨.mx [iA p_aR.page, iA p_aR.slot], 26, 0⟩, some ⟨.mx [.os 3 0 r8.1.pages.length], 30, 0⟩, some ⟨.tr (eL r8.1.pages), 50, 1⟩, some ⟨.mx [.os 5 0 r10.pages.length], 30, 0⟩, some ⟨.mx (dL 6 0 r25.2), 50, 1⟩, some ⟨.fm (fam r25.2), 70, 2⟩, some ⟨.mx [.os 8 0 r14.1.pages.length], 30, 0⟩, some ⟨.mx (dL 9 0 r31.2), 50, 1⟩, some ⟨.fm (fam r31.2), 70, 2⟩, some ⟨.mx (dL 11 0 r20.pages), 50, 1⟩, some ⟨.fm (fam r20.pages), 70, 2⟩, some ⟨.mx (dL 13 0 r37.pages), 50, 1⟩, some ⟨.fm (fam r37.pages), 70, 2⟩, some ⟨.mx (dL 15 0 r41.1.pages), 50, 1⟩, some ⟨.fm (fam r41.1.pages), 70, 2⟩] rfl rfl ?_; refine PR.op rfl (Rd.moveU rfl) ?_; (iterate 2 refine PR.op rfl (Rd.extract rfl rfl) ?_); refine PR.efX rfl rfl (Ef.alloc rfl rfl) ?_; refine PR.nm (.op 16 0) [some ⟨.mx [sL p_aH.pages], 24, 0⟩, some ⟨.mx [iA p_aR.page, iA p_aR.slot], 26, 0⟩, some ⟨.mx [.os 3 0 r8.1.pages.length], 30, 0⟩, some ⟨.tr (eL r8.1.pages), 50, 1⟩, some ⟨.mx [.os 5 0 r10.pages.length], 30, 0⟩, some ⟨.mx (dL 6 0 r25.2), 50, 1⟩, some ⟨.fm (fam r25.2), 70, 2⟩, some ⟨.mx [.os 8 0 r14.1.pages.length], 30, 0⟩, some ⟨.mx (dL 9 0 r31.2), 50, 1⟩, some ⟨.fm (fam r31.2), 70, 2⟩, some ⟨.mx (dL 11 0 r20.pages), 50, 1⟩, some ⟨.fm (fam r20.pages), 70, 2⟩, some ⟨.mx (dL 13 0 r37.pages), 50, 1⟩, some ⟨.fm (fam r37.pages), 70, 2⟩, some ⟨.mx (dL 15 0 r41.1.pages), 50, 1⟩, some ⟨.fm (fam r41.1.pages), 70, 2⟩, some ⟨.mx [.t (.v (.slice none 0 0))], 30, 0⟩] rfl rfl ?_; refine PR.store rfl rfl rfl rfl rfl rfl rfl rfl ?_; refine PR.nO [some ⟨.mx [sL p_aH.pages], 24, 0⟩, some ⟨.mx [iA p_aR.page, iA p_aR.slot], 26, 0⟩, some ⟨.mx [.os 3 0 r8.1.pages.length], 30, 0⟩, some ⟨.tr (eL r8.1.pages), 50, 1⟩, some ⟨.mx [.os 5 0 r10.pages.length], 30, 0⟩, some ⟨.mx (dL 6 0 r25.2), 50, 1⟩, some ⟨.fm (fam r25.2), 70, 2⟩, some ⟨.mx [.os 8 0 r14.1.pages.length], 30, 0⟩, some ⟨.mx (dL 9 0 r31.2), 50, 1⟩, some ⟨.fm (fam r31.2), 70, 2⟩, some ⟨.mx (dL 11 0 r20.pages), 50, 1⟩, some ⟨.fm (fam r20.pages), 70, 2⟩, some ⟨.mx (dL 13 0 r37.pages), 50, 1⟩, some ⟨.fm (fam r37.pages), 70, 2⟩, some ⟨.mx (dL 15 0 r41.1.pages), 50, 1⟩, some ⟨.fm (fam r41.1.pages), 70, 2⟩, some ⟨.mx [.os 14 0 r41.1.pages.length], 30, 0⟩] rfl ?_; refine PR.op rfl (Rd.asnT rfl) ?_; refine PR.nil ?_; refine PT.done ?_; refine PL.nil ?_; refine thA_n ?_; exact ⟨(), trivial, [some 2, some 3, some 7, some 8, some 9, some 16, some 14, some 15], ⟨rfl, rfl, ⟨⟨_, rfl, rfl, rfl, .mx ⟨.os rfl, trivial⟩⟩, ⟨_, rfl, rfl, rfl, .tr _⟩, ⟨_, rfl, rfl, rfl, .mx ⟨.osE rfl (by simp only [List.length_set, len_L_markHeap N _ _ _ h_32]), trivial⟩⟩, ⟨_, rfl, rfl, rfl, .mx (sb_dL rfl 0 _)⟩, ⟨_, rfl, rfl, rfl, .fm _⟩, ⟨_, rfl, rfl, rfl, .mx ⟨.os rfl, trivial⟩⟩, ⟨_, rfl, rfl, rfl, .mx (sb_dL rfl 0 _)⟩, ⟨_, rfl, rfl, rfl, .fm _⟩, trivial⟩, ⟨.op rfl, .t _, .op rfl, .t _, .op rfl, .t _, trivial⟩⟩⟩
    refine PT.seg ?_; refine PR.efX rfl rfl (Ef.alloc rfl rfl) ?_; refine PR.nm (.op 14 0) [some ⟨.mx [sL p_aH.pages], 24, 0⟩, some ⟨.mx [iA p_aR.page, iA p_aR.slot], 26, 0⟩, some ⟨.mx [.os 3 0 r8.1.pages.length], 30, 0⟩, some ⟨.tr (eL r8.1.pages), 50, 1⟩, some ⟨.mx [.os 5 0 r10.pages.length], 30, 0⟩, some ⟨.mx (dL 6 0 r25.2), 50, 1⟩, some ⟨.fm (fam r25.2), 70, 2⟩, some ⟨.mx [.os 8 0 r14.1.pages.length], 30, 0⟩, some ⟨.mx (dL 9 0 r31.2), 50, 1⟩, some ⟨.fm (fam r31.2), 70, 2⟩, some ⟨.mx (dL 11 0 r20.pages), 50, 1⟩, some ⟨.fm (fam r20.pages), 70, 2⟩, some ⟨.mx (dL 13 0 r37.pages), 50, 1⟩, some ⟨.fm (fam r37.pages), 70, 2⟩, some ⟨.mx [.t (.v (.slice none 0 0))], 30, 0⟩] rfl rfl ?_; refine PR.callM true [] (w_I_HeapDelete N r37 r39 r41 h_42) rfl Try.call10 rfl ⟨.aggL ⟨(Sb.fzD rfl rfl (by first | decide | exact List.not_mem_nil) (by first | decide | exact List.not_mem_nil) rfl rfl rfl), trivial⟩, .aggL ⟨.t _, .t _, trivial⟩, trivial⟩ rfl trivial (fun _ => ⟨⟨⟨trivial, trivial⟩, trivial, trivial⟩, (flat_cons flat_dp (flat_cons flat_fm flat_nil))⟩) rfl ?_; refine PR.nm (.tup [.agg [.os 15 0 r41.1.pages.length], bA r41.2]) [some ⟨.mx [sL p_aH.pages], 24, 0⟩, some ⟨.mx [iA p_aR.page, iA p_aR.slot], 26, 0⟩, some ⟨.mx [.os 3 0 r8.1.pages.length], 30, 0⟩, some ⟨.tr (eL r8.1.pages), 50, 1⟩, some ⟨.mx [.os 5 0 r10.pages.length], 30, 0⟩, some ⟨.mx (dL 6 0 r25.2), 50, 1⟩, some ⟨.fm (fam r25.2), 70, 2⟩, some ⟨.mx [.os 8 0 r14.1.pages.length], 30, 0⟩, some ⟨.mx (dL 9 0 r31.2), 50, 1⟩, some ⟨.fm (fam r31.2), 70, 2⟩, some ⟨.mx (dL 11 0 r20.pages), 50, 1⟩, some ⟨.fm (fam r20.pages), 70, 2⟩, some ⟨.mx (dL 13 0 r37.pages), 50, 1⟩, some ⟨.fm (fam r37.pages), 70, 2⟩, some ⟨.mx [.t (.v (.slice none 0 0))], 30, 0⟩, some ⟨.mx (dL 16 0 r41.1.pages), 50, 1⟩, some ⟨.fm (fam r41.1.pages), 70, 2⟩] rfl (by show ([some ⟨.mx [sL p_aH.pages], 24, 0⟩, some ⟨.mx [iA p_aR.page, iA p_aR.slot], 26, 0⟩, some ⟨.mx [.os 3 0 r8.1.pages.length], 30, 0⟩, some ⟨.tr (eL r8.1.pages), 50, 1⟩, some ⟨.mx [.os 5 0 r10.pages.length], 30, 0⟩, some ⟨.mx (dL 6 0 r25.2), 50, 1⟩, some ⟨.fm (fam r25.2), 70, 2⟩, some ⟨.mx [.os 8 0 r14.1.pages.length], 30, 0⟩, some ⟨.mx (dL 9 0 r31.2), 50, 1⟩, some ⟨.fm (fam r31.2), 70, 2⟩, some ⟨.mx (dL 11 0 r20.pages), 50, 1⟩, some ⟨.fm (fam r20.pages), 70, 2⟩, some ⟨.mx (dL 13 0 r37.pages), 50, 1⟩, some ⟨.fm (fam r37.pages), 70, 2⟩, some ⟨.mx [.t (.v (.slice none 0 0))], 30, 0⟩, some ⟨.mx (AV.renL (thet [] 15) (dL 1 0 r41.1.pages)), 50, 1⟩, some ⟨.fm (fam r41.1.pages), 70, 2⟩] : Obs) = _; simp only [dL_ren]; rfl) ?_; refine PR.nm (.tup [.agg [.os 15 0 r41.1.pages.length], bA r41.2]) [some ⟨.mx [sL p_aH.pages], 24, 0⟩, some ⟨.mx [iA p_aR.page, iA p_aR.slot], 26, 0⟩, some ⟨.mx [.os 3 0 r8.1.pages.length], 30, 0⟩, some ⟨.tr (eL r8.1.pages), 50, 1⟩, some ⟨.mx [.os 5 0 r10.pages.length], 30, 0⟩, some ⟨.mx (dL 6 0 r25.2), 50, 1⟩, some ⟨.fm (fam r25.2), 70, 2⟩, some ⟨.mx [.os 8 0 r14.1.pages.length], 30, 0⟩, some ⟨.mx (dL 9 0 r31.2), 50, 1⟩, some ⟨.fm (fam r31.2), 70, 2⟩, some ⟨.mx (dL 11 0 r20.pages), 50, 1⟩, some ⟨.fm (fam r20.pages), 70, 2⟩, some ⟨.mx (dL 13 0 r37.pages), 50, 1⟩, some ⟨.fm (fam r37.pages), 70, 2⟩, some ⟨.mx [.t (.v (.slice none 0 0))], 30, 0⟩, some ⟨.mx (dL 16 0 r41.1.pages), 50, 1⟩, some ⟨.fm (fam r41.1.pages), 70, 2⟩] rfl rfl ?_; refine PR.op rfl (Rd.moveU rfl) ?_; (iterate 2 refine PR.op rfl (Rd.extract rfl rfl) ?_); refine PR.store rfl rfl rfl rfl rfl rfl rfl rfl ?_; refine PR.nO [some ⟨.mx [sL p_aH.pages], 24, 0⟩, some ⟨.mx [iA p_aR.page, iA p_aR.slot], 26, 0⟩, some ⟨.mx [.os 3 0 r8.1.pages.length], 30, 0⟩, some ⟨.tr (eL r8.1.pages), 50, 1⟩, some ⟨.mx [.os 5 0 r10.pages.length], 30, 0⟩, some ⟨.mx (dL 6 0 r25.2), 50, 1⟩, some ⟨.fm (fam r25.2), 70, 2⟩, some ⟨.mx [.os 8 0 r14.1.pages.length], 30, 0⟩, some ⟨.mx (dL 9 0 r31.2), 50, 1⟩, some ⟨.fm (fam r31.2), 70, 2⟩, some ⟨.mx (dL 11 0 r20.pages), 50, 1⟩, some ⟨.fm (fam r20.pages), 70, 2⟩, some ⟨.mx (dL 13 0 r37.pages), 50, 1⟩, some ⟨.fm (fam r37.pages), 70, 2⟩, some ⟨.mx [.os 15 0 r41.1.pages.length], 30, 0⟩, some ⟨.mx (dL 16 0 r41.1.pages), 50, 1⟩, some ⟨.fm (fam r41.1.pages), 70, 2⟩] rfl ?_; refine PR.op rfl (Rd.asnT rfl) ?_; refine PR.nil ?_; refine PT.done ?_; refine PL.nil ?_; refine thA_n ?_; exact ⟨(), trivial, [some 2, some 3, some 7, some 8, some 9, some 14, some 15, some 16], ⟨rfl, rfl, ⟨⟨_, rfl, rfl, rfl, .mx ⟨.os rfl, trivial⟩⟩, ⟨_, rfl, rfl, rfl, .tr _⟩, ⟨_, rfl, rfl, rfl, .mx ⟨.osE rfl (by simp only [List.length_set, len_L_markHeap N _ _ _ h_32]), trivial⟩⟩, ⟨_, rfl, rfl, rfl, .mx (sb_dL rfl 0 _)⟩, ⟨_, rfl, rfl, rfl, .fm _⟩, ⟨_, rfl, rfl, rfl, .mx ⟨.os rfl, trivial⟩⟩, ⟨_, rfl, rfl, rfl, .mx (sb_dL rfl 0 _)⟩, ⟨_, rfl, rfl, rfl, .fm _⟩, trivial⟩, ⟨.op rfl, .t _, .op rfl, .t _, .op rfl, .t _, trivial⟩⟩⟩
  rintro ⟨⟩ -
  (iterate 2 refine PC.seq ?_); obtain ⟨r43, h_44, hh0⟩ := bind_some hh0; rcases cond_some hh0 with ⟨h_45, hh0⟩ | ⟨h_45, hh0⟩; rotate_left
  · refine PC.region ?_; (iterate 2 refine PL.op rfl (Rd.loadBox rfl rfl rfl) ?_); refine PL.callM true [] (w_L_eqHeap N r41.1 r8.1 r43 h_44) rfl Try.call11 rfl ⟨.aggL ⟨(Sb.fzD rfl rfl (by first | decide | exact List.not_mem_nil) (by first | decide | exact List.not_mem_nil) rfl rfl rfl), trivial⟩, .aggL ⟨.own rfl (by first | decide | exact List.not_mem_nil) rfl rfl, trivial⟩, trivial⟩ rfl trivial (fun _ => ⟨trivial, flat_nil⟩) ?_; refine PL.op rfl (Rd.unnot rfl) ?_; refine PL.op rfl (Rd.moveT rfl) ?_; (iterate 3 refine PL.guard_off rfl rfl (not_f h_45) ?_); refine PL.op rfl (Rd.pick_t rfl (not_f h_45)) ?_; refine PL.nil ?_; refine thA_n ?_; refine PC.cond_true rfl rfl ?_; refine PC.seq ?_; refine PC.region ?_; refine PL.op rfl (Rd.asnT rfl) ?_; refine PL.nil ?_; refine thA_n ?_; refine PC.ret ?_; refine thA_r ?_; obtain rfl := some_in hh0; exact FinA.mk (r := bA false) (bl := []) [] (.inl rfl) rfl (rl := [.tmp 4]) (.tmp .nil) rfl rfl rfl (.t _) trivial ⟨rfl, rfl⟩
  refine PC.region ?_; (iterate 2 refine PL.op rfl (Rd.loadBox rfl rfl rfl) ?_); refine PL.callM true [] (w_L_eqHeap N r41.1 r8.1 r43 h_44) rfl Try.call11 rfl ⟨.aggL ⟨(Sb.fzD rfl rfl (by first | decide | exact List.not_mem_nil) (by first | decide | exact List.not_mem_nil) rfl rfl rfl), trivial⟩, .aggL ⟨.own rfl (by first | decide | exact List.not_mem_nil) rfl rfl, trivial⟩, trivial⟩ rfl trivial (fun _ => ⟨trivial, flat_nil⟩) ?_; refine PL.op rfl (Rd.unnot rfl) ?_; refine PL.op rfl (Rd.moveT rfl) ?_; refine PL.guard_on rfl (not_t h_45) ?_; refine PL.op rfl (Rd.moveT rfl) ?_; refine PL.guard_on rfl (not_t h_45) ?_; refine PL.op rfl (Rd.moveT rfl) ?_; refine PL.guard_on rfl (not_t h_45) ?_; refine PL.op rfl (Rd.neqB rfl rfl) ?_; refine PL.op rfl (Rd.pick_f rfl (not_t h_45)) ?_; refine PL.nil ?_; refine thA_n ?_; rcases cond_some hh0 with ⟨h_46, hh0⟩ | ⟨h_46, hh0⟩; rotate_left
  · refine PC.cond_true rfl (not_f h_46) ?_; refine PC.seq ?_; refine PC.region ?_; refine PL.op rfl (Rd.asnT rfl) ?_; refine PL.nil ?_; refine thA_n ?_; refine PC.ret ?_; refine thA_r ?_; obtain rfl := some_in hh0; exact FinA.mk (r := bA false) (bl := []) [] (.inl rfl) rfl (rl := [.tmp 4]) (.tmp .nil) rfl rfl rfl (.t _) trivial ⟨rfl, rfl⟩
  refine PC.cond_false rfl (not_t h_46) ?_; refine PC.skip ?_; refine thA_n ?_; refine PC.seq ?_; refine PC.region ?_; refine PL.op rfl (Rd.asnT rfl) ?_; refine PL.nil ?_; refine thA_n ?_; refine PC.seq ?_; obtain ⟨r47, h_48, hh0⟩ := bind_some hh0; refine PC.region ?_; refine PL.op rfl (Rd.loadBox rfl rfl rfl) ?_; refine PL.op rfl (Rd.moveT rfl) ?_; refine PL.callM true [] (w_L_heldHeap N (I_Heap.mk r31.2) (1 : Int) r47 h_48) rfl Try.call13 rfl ⟨.aggL ⟨(Sb.fzD rfl rfl (by first | decide | exact List.not_mem_nil) (by first | decide | exact List.not_mem_nil) (by simp only [List.length_set, len_L_markHeap N _ _ _ h_32]) rfl rfl), trivial⟩, .t _, trivial⟩ rfl trivial (fun _ => ⟨trivial, flat_nil⟩) ?_; refine PL.op rfl (Rd.asnT rfl) ?_; refine PL.nil ?_; refine thA_n ?_; (iterate 2 refine PC.seq ?_); refine PC.region ?_; refine PL.op rfl (Rd.moveT rfl) ?_; refine PL.op rfl (Rd.lss rfl rfl) ?_; refine PL.nil ?_; refine thA_n ?_; rcases cond_some hh0 with ⟨h_49, hh0⟩ | ⟨h_49, hh0⟩
  · refine PC.cond_true rfl h_49 ?_; refine PC.seq ?_; refine PC.region ?_; refine PL.op rfl (Rd.asnT rfl) ?_; refine PL.nil ?_; refine thA_n ?_; refine PC.ret ?_; refine thA_r ?_; obtain rfl := some_in hh0; exact FinA.mk (r := bA false) (bl := []) [] (.inl rfl) rfl (rl := [.tmp 4]) (.tmp .nil) rfl rfl rfl (.t _) trivial ⟨rfl, rfl⟩
  refine PC.cond_false rfl h_49 ?_; refine PC.skip ?_; refine thA_n ?_; (iterate 2 refine PC.seq ?_); refine PC.region ?_; (iterate 2 refine PL.op rfl (Rd.moveT rfl) ?_); refine PL.op rfl (Rd.neq rfl rfl) ?_; refine PL.nil ?_; refine thA_n ?_; rcases cond_some hh0 with ⟨h_50, hh0⟩ | ⟨h_50, hh0⟩; rotate_left
  · refine PC.cond_true rfl (not_f h_50) ?_; refine PC.seq ?_; refine PC.region ?_; refine PL.op rfl (Rd.asnT rfl) ?_; refine PL.nil ?_; refine thA_n ?_; refine PC.ret ?_; refine thA_r ?_; obtain rfl := some_in hh0; exact FinA.mk (r := bA false) (bl := []) [] (.inl rfl) rfl (rl := [.tmp 4]) (.tmp .nil) rfl rfl rfl (.t _) trivial ⟨rfl, rfl⟩
  refine PC.cond_false rfl (not_t h_50) ?_; refine PC.skip ?_; refine thA_n ?_; refine PC.seq ?_; refine PC.region ?_; refine PL.op rfl (Rd.asnT rfl) ?_; refine PL.nil ?_; refine thA_n ?_; refine PC.ret ?_; obtain rfl := some_in hh0; exact FinA.mk (r := bA true) (bl := []) [] (.inl rfl) rfl (rl := [.tmp 4]) (.tmp .nil) rfl rfl rfl (.t _) trivial ⟨rfl, rfl⟩
end V
end Go.Proofs.Ytmnjnkcooofgjaa
namespace Go.Proofs.Ytmnjnkcooofgjaa
namespace V
open Enc (enc)
set_option linter.unusedVariables false
set_option linter.unusedSimpArgs false
set_option maxHeartbeats 4000000
set_option maxRecDepth 100000
open Go.RowKit
attribute [local irreducible] thA inA FinA eL
end V
end Go.Proofs.Ytmnjnkcooofgjaa
namespace Go.Proofs.Ytmnjnkcooofgjaa
namespace V
open Enc (enc)
set_option linter.unusedVariables false
set_option linter.unusedSimpArgs false
set_option maxHeartbeats 4000000
set_option maxRecDepth 100000
open Go.RowKit
attribute [local irreducible] thA inA FinA eL
end V
end Go.Proofs.Ytmnjnkcooofgjaa
namespace Go.Proofs.Ytmnjnkcooofgjaa
namespace V
set_option linter.unusedVariables false
set_option linter.unusedSimpArgs false
set_option maxRecDepth 100000
/-- A heap that the marks can run through. -/
structure HS (g : I_Heap) : Prop where
  len : g.pages.length ≤ 5000000
  pg : ∀ p ∈ g.pages, p.slots.length ≤ 5000000
  sum : cL cPg g.pages ≤ 9000000
theorem cL_le {α : Type} {c : α → Nat} {m : Nat} : ∀ {l : List α}, (∀ x ∈ l, c x ≤ m) → cL c l ≤ m * l.length
  | [], _ => Nat.zero_le _
  | x :: l, h => by
    have h1 := h x (.head _)
    have h2 := cL_le (l := l) fun y hy => h y (.tail _ hy)
    simp only [cL, List.length_cons, Nat.mul_add]
    omega
theorem HS.nil : HS ⟨[]⟩ := ⟨by simp, fun p h => by (cases h), by simp [cL]⟩
theorem HS.vP {l : List I_Page} (h1 : l.length ≤ 7) (h2 : ∀ p ∈ l, vP p) : HS ⟨l⟩ := by
  refine ⟨by show l.length ≤ _; omega, fun p hp => by have := (h2 p hp).1; omega, ?_⟩
  have : cL cPg l ≤ 16 * l.length := cL_le fun p hp => by have := (h2 p hp).1; unfold cPg; omega
  show cL cPg l ≤ _
  omega
theorem set_all {α : Type} {P : α → Prop} {l : List α} {i : Nat} {x : α} (h : ∀ y ∈ l, P y) (hx : P x) : ∀ y ∈ l.set i x, P y := fun y hy => by
  rcases List.mem_or_eq_of_mem_set hy with h1 | h1
  · exact h y h1
  · subst h1; exact hx
theorem hDel_hs (h : I_Heap) (r : I_Rid) : HS (hDel h r).1 := by
  unfold hDel
  split
  · rename_i h1
    split
    · split
      · rename_i h3
        exact HS.vP (by have := h1.1.1; simp; omega) (set_all h1.1.2 (vP_clearP h3))
      · exact HS.nil
    · exact HS.nil
  · exact HS.nil
/-- What the argument's size gives. -/
theorem toHp_hs {a : L_Heap} (h : a.pages.length ≤ 1048576 ∧ cL (fun p : L_Page => p.slots.length) a.pages ≤ 1048576 ∧ ∀ p ∈ a.pages, p.slots.length ≤ 1048576 ∧ ∀ s ∈ p.slots, s.data.size ≤ 1048576) : HS ⟨a.pages.map toPg⟩ ∧ HB (a.pages.map toPg) := by
  obtain ⟨h1, h2, h3⟩ := h
  have hc : ∀ l : List L_Page, cL cPg (l.map toPg) = 2 * cL (fun p : L_Page => p.slots.length) l := by
    intro l
    induction l with
    | nil => rfl
    | cons x l ih => simp only [List.map_cons, cL, ih, cPg, toPg, List.length_map]; omega
  refine ⟨⟨by simp; omega, fun p hp => ?_, ?_⟩, ⟨by simp; omega, fun p hp => ?_⟩⟩
  · obtain ⟨x, hx, rfl⟩ := List.mem_map.1 hp
    have := (h3 x hx).1
    simp [toPg]; omega
  · show cL cPg (a.pages.map toPg) ≤ _
    rw [hc]; omega
  · obtain ⟨x, hx, rfl⟩ := List.mem_map.1 hp
    have h4 := h3 x hx
    refine ⟨by simp [toPg]; omega, fun s hs => ?_⟩
    obtain ⟨y, hy, rfl⟩ := List.mem_map.1 hs
    have := h4.2 y hy
    show y.data.size ≤ _
    omega
def toRid (a : L_Rid) : I_Rid := ⟨a.page, a.slot⟩
section
variable {N : Nat} (hN : 100000000 ≤ N)
include hN
theorem exactHeapDelete (a : L_Heap) (sa : Szd.szd a) (k : L_Rid) (sk : Szd.szd k) : m_L_FnExactHeapDelete N a k = some true := by
  refine ok.val ?_
  unfold m_L_FnExactHeapDelete
  refine ok.call (szHeap_ok hN sa.1 (fun p hp => ⟨(sa.2 p hp).1, fun s hs => ((sa.2 p hp).2 s hs).2⟩)) fun r hr => ?_
  refine ok.ite (fun _ => ok.some rfl) fun hc => ?_
  have hr := hr.resolve_left hc
  obtain ⟨hx, hb⟩ := toHp_hs hr
  have hg := hDel_hs ⟨a.pages.map toPg⟩ (toRid k)
  have e1 := toHeap_eq hN (a := a) (by omega) (fun p hp => by have := (hr.2.2 p hp).1; omega)
  have e2 : m_L_toRid N k = some (toRid k) := rfl
  have e3 := eqHeap_self hN hx.len hx.pg
  have e4 := eqHeap_self hN hg.len hg.pg
  have e5 := markHeap_eq hN hx.len hx.sum
  have e6 := markHeap_eq hN hg.len hg.sum
  have e7 := heldHeap_eq hN hg.len hg.sum
  have e8 := delS hN (h := ⟨a.pages.map toPg⟩) (r := toRid k) hb
  have e9 := delI hN (h := ⟨a.pages.map toPg⟩) (r := toRid k) hb
  repeat' (first | (with_reducible refine ok.some ?_) | (with_reducible refine ok.eq e1 ?_) | (with_reducible refine ok.eq e2 ?_) | (with_reducible refine ok.eq e8 ?_) | (with_reducible refine ok.eq e9 ?_) | (with_reducible refine ok.eq e4 ?_) | (with_reducible refine ok.eq e3 ?_) | (with_reducible refine ok.bt (beq_self_eq_true _) ?_) | (with_reducible refine ok.bt rfl ?_) | (with_reducible refine ok.eq e5 ?_) | (with_reducible refine ok.eq e6 ?_) | (with_reducible refine ok.eq e7 ?_) | (with_reducible refine ok.iff (by omega) ?_) | (with_reducible refine ok.ift rfl ?_) | (with_reducible refine ok.ite (fun hc => ?_) (fun hc => ?_)) | (with_reducible refine ok.cond (fun hc => ?_) (fun hc => ?_)) | (with_reducible refine ok.chk (by omega) ?_) | (with_reducible refine ok.bs ?_) | (with_reducible refine ok.remM (by omega) (fun _ hq => ?_)) | (with_reducible refine ok.quoM (by omega) (fun _ hq => ?_)) | (with_reducible refine ok.ix (by omega) (by omega) (fun q hq he => ?_)))
  all_goals rfl
end
end V
end Go.Proofs.Ytmnjnkcooofgjaa
