/- The helpers of the pages' exact laws, in plain words. No condition. -/
import Derived.Test.YtoljdhdfijnjiaaPlMk
import Derived.Test.YtoljdhdfijnjiaaPgXa
import Derived.Test.YtoljdhdfijnjiaaPlPgB
namespace Go.Proofs.Ytoljdhdfijnjiaa
namespace V
set_option linter.unusedVariables false
set_option linter.unusedSimpArgs false
set_option maxRecDepth 100000
set_option maxHeartbeats 1000000
def toSlot (x : L_Slot) : I_Slot := ⟨x.live, x.data⟩
noncomputable def mkSlot (N : Nat) (x : I_Slot) (k : Int) : I_Slot := ⟨decide ((k) % 3 = 0), mT N (k + 1)⟩
theorem len_L_markSlotS (N : Nat) (a : List I_Slot) (k : Int) (r : Int × List I_Slot) (h : m_L_markSlotS N a k = some r) : r.2.length = a.length := by
  unfold m_L_markSlotS at h
  obtain ⟨o, h1, h2⟩ := bind_some h
  unfold m_L_markSlotS_k1 at h2
  cases h2
  refine al.loop (fun s => s.2.2.length = a.length) (fun b => b.2.length = a.length) ?_ N _ rfl _ h1
  rintro ⟨k, i, v⟩ hv
  show al (m_L_markSlotS_b1 N k i v) _
  unfold m_L_markSlotS_b1
  repeat' (first | exact al.some hv | (refine al.cond (fun _ => ?_) (fun _ => ?_)) | (refine al.bind (fun _ _ => ?_)) | (refine al.some ?_; simpa only [List.length_set] using hv))
section
variable {N : Nat} (hN : 100000000 ≤ N)
include hN
theorem toSlotS_eq {a : List L_Slot} (ha : a.length ≤ 4000000) : m_L_toSlotS N a = some (a.map toSlot) := by
  unfold m_L_toSlotS
  have hm : mkM 24 (⟨false, ByteArray.empty⟩ : I_Slot) (a.length : Int) = some (List.replicate a.length ⟨false, ByteArray.empty⟩) := by unfold mkM; rw [if_pos (by omega)]; simp
  rw [hm]
  show (loopM _ N _).bind _ = _
  rw [to_loop a toSlot (List.replicate a.length ⟨false, ByteArray.empty⟩) (by simp) (by omega)]
  · rfl
  · intro i hi v hv
    unfold m_L_toSlotS_b1 m_L_toSlot
    rw [decide_eq_true (by show (i : Int) < _; omega), cond_true, ixI_nat hi, ixI_nat (show i < v.length by omega), chk_eq (by show _ ≤ (i : Int) + 1 ∧ _; omega)]
    rfl
  · intro v
    unfold m_L_toSlotS_b1
    rw [decide_eq_false (by show ¬ (a.length : Int) < _; omega)]; rfl
omit hN in
theorem eqSlot_self (a : I_Slot) : m_L_eqSlot N a a = some true := by
  unfold m_L_eqSlot
  simp
theorem eqSlotS_self {a : List I_Slot} (ha : a.length ≤ 5000000) : m_L_eqSlotS N a a = some true := by
  unfold m_L_eqSlotS
  rw [decide_eq_true rfl, cond_true]
  have h := ok.up (body := fun s : Int => m_L_eqSlotS_b1 N a a s) a.length (fun _ => True) (fun o => o = .inl ()) (N := N) (by omega) ?_ ?_
  · obtain ⟨o, e, rfl⟩ := h; rw [e]; rfl
  · intro i hi _
    show ok (m_L_eqSlotS_b1 N a a i) _
    unfold m_L_eqSlotS_b1
    refine ok.ift (by omega) (ok.eq (ixI_nat hi) (ok.eq (ixI_nat hi) (ok.eq (eqSlot_self _) (ok.bt rfl (ok.chk (by omega) (ok.some ⟨rfl, trivial⟩))))))
  · intro _
    show ok (m_L_eqSlotS_b1 N a a _) _
    unfold m_L_eqSlotS_b1
    exact ok.iff (by omega) (ok.some rfl)
theorem markSlotS_eq {a : List I_Slot} (ha : a.length ≤ 5000000) {k0 : Int} (h0 : 1 ≤ k0 ∧ k0 ≤ 10000000) : m_L_markSlotS N a k0 = some (k0 + ((2 * a.length : Nat) : Int), mkL (mkSlot N) (fun _ => 2) a k0) := by
  unfold m_L_markSlotS
  have hc : ∀ xs : List I_Slot, cL (fun _ => 2) xs = 2 * xs.length := cL_const _ (fun _ => rfl)
  rw [mark_loop (mkSlot N) (fun _ => 2) a k0 (by omega)]
  · rw [hc]; rfl
  · intro i hi v hv hx
    obtain ⟨hi', hx⟩ := List.getElem?_eq_some_iff.1 hx
    have hb : cL (fun _ => 2) (a.take i) = 2 * i := by rw [hc, List.length_take]; omega
    simp only [hb]
    have hx' : ixI v (i : Int) = some a[i] := by rw [ixI_nat hi', hx]
    show m_L_markSlotS_b1 N (k0 + ((2 * i : Nat) : Int)) i v = _
    refine ok.val ?_
    unfold m_L_markSlotS_b1
    repeat' (first | (with_reducible refine ok.some ?_) | (with_reducible refine ok.ift (by omega) ?_) | (with_reducible refine ok.eq hx' ?_) | (with_reducible refine ok.eq (mT_eq hN (by omega) (by omega)) ?_) | (with_reducible refine ok.ite (fun hc => ?_) (fun hc => ?_)) | (with_reducible refine ok.cond (fun hc => ?_) (fun hc => ?_)) | (with_reducible refine ok.chk (by omega) ?_) | (with_reducible refine ok.bs ?_) | (with_reducible refine ok.remM (by omega) (fun _ hq => ?_)) | (with_reducible refine ok.quoM (by omega) (fun _ hq => ?_)) | (with_reducible refine ok.ix (by omega) (by omega) (fun q hq he => ?_)))
    obtain ⟨rfl, _⟩ := hq
    simp only [List.set_set, mkSlot, Int.toNat_natCast, Int.add_assoc]
    rfl
  · intro k v hv
    unfold m_L_markSlotS_b1
    rw [decide_eq_false (by show ¬ (a.length : Int) < (v.length : Int); omega)]; rfl
theorem heldSlotS_eq {a : List I_Slot} (ha : a.length ≤ 5000000) {k0 : Int} (h0 : 1 ≤ k0 ∧ k0 ≤ 10000000) : m_L_heldSlotS N (mkL (mkSlot N) (fun _ => 2) a k0) k0 = some (k0 + ((2 * a.length : Nat) : Int)) := by
  unfold m_L_heldSlotS
  have hc : ∀ xs : List I_Slot, cL (fun _ => 2) xs = 2 * xs.length := cL_const _ (fun _ => rfl)
  rw [held_loop (mkSlot N) (fun _ => 2) a k0 (by omega)]
  · rw [hc]; rfl
  · intro i hi hx
    obtain ⟨hi', hx⟩ := List.getElem?_eq_some_iff.1 hx
    have hb : cL (fun _ => 2) (a.take i) = 2 * i := by rw [hc, List.length_take]; omega
    rw [hb] at hx
    simp only [hb]
    have hx' : ixI (mkL (mkSlot N) (fun _ => 2) a k0) (i : Int) = some (mkSlot N a[i] (k0 + ((2 * i : Nat) : Int))) := by rw [ixI_nat hi', hx]
    have hl := mkL_len (mkSlot N) (fun _ => 2) a k0
    show m_L_heldSlotS_b1 N (mkL (mkSlot N) (fun _ => 2) a k0) (k0 + ((2 * i : Nat) : Int)) i = _
    refine ok.val ?_
    unfold m_L_heldSlotS_b1
    simp only [mkSlot] at hx'
    repeat' (first | (with_reducible refine ok.some ?_) | (with_reducible refine ok.ift rfl ?_) | (with_reducible refine ok.ift (by omega) ?_) | (with_reducible refine ok.eq hx' ?_) | (with_reducible refine ok.bt (by rw [hq.1]; exact beq_self_eq_true _) ?_) | (with_reducible refine ok.eq (mT_eq hN (by omega) (by omega)) ?_) | (with_reducible refine ok.bt (beq_self_eq_true _) ?_) | (with_reducible refine ok.ite (fun hc => ?_) (fun hc => ?_)) | (with_reducible refine ok.cond (fun hc => ?_) (fun hc => ?_)) | (with_reducible refine ok.chk (by omega) ?_) | (with_reducible refine ok.bs ?_) | (with_reducible refine ok.remM (by omega) (fun _ hq => ?_)) | (with_reducible refine ok.quoM (by omega) (fun _ hq => ?_)) | (with_reducible refine ok.ix (by omega) (by omega) (fun q hq he => ?_)))
    simp only [Int.add_assoc]; rfl
  · intro k
    unfold m_L_heldSlotS_b1
    have hl := mkL_len (mkSlot N) (fun _ => 2) a k0
    rw [decide_eq_false (by show ¬ (a.length : Int) < _; omega)]; rfl
end
theorem len_L_markPage (N : Nat) (a : I_Page) (k : Int) (r : Int × List I_Slot) (h : m_L_markPage N a k = some r) : r.2.length = a.slots.length := by
  unfold m_L_markPage at h
  obtain ⟨o, h1, h2⟩ := bind_some h
  cases h2
  exact len_L_markSlotS N _ _ _ h1
def toPg (x : L_Page) : I_Page := ⟨x.slots.map toSlot⟩
section
variable {N : Nat} (hN : 100000000 ≤ N)
include hN
theorem toPage_eq {a : L_Page} (ha : a.slots.length ≤ 4000000) : m_L_toPage N a = some (toPg a) := by
  unfold m_L_toPage; rw [toSlotS_eq hN ha]; rfl
theorem eqPage_self {a : I_Page} (ha : a.slots.length ≤ 5000000) : m_L_eqPage N a a = some true := by
  unfold m_L_eqPage; rw [eqSlotS_self hN ha]; rfl
theorem markPage_eq {a : I_Page} (ha : a.slots.length ≤ 5000000) : m_L_markPage N a 1 = some (1 + ((2 * a.slots.length : Nat) : Int), mkL (mkSlot N) (fun _ => 2) a.slots 1) := by
  unfold m_L_markPage; rw [markSlotS_eq hN ha (by omega)]; rfl
theorem heldPage_eq {a : I_Page} (ha : a.slots.length ≤ 5000000) : m_L_heldPage N ⟨mkL (mkSlot N) (fun _ => 2) a.slots 1⟩ 1 = some (1 + ((2 * a.slots.length : Nat) : Int)) := by
  unfold m_L_heldPage; rw [heldSlotS_eq hN ha (by omega)]
  refine ok.val ?_
  refine ok.bs (ok.iff (by omega) (ok.some rfl))
theorem szPage_ok {a : L_Page} (ha : a.slots.length ≤ 9223372036854775807) (hd : ∀ s ∈ a.slots, s.data.size ≤ 9223372036854775807) : ok (m_L_szPage N a 1048576) fun r => r < 0 ∨ (a.slots.length ≤ 1048576 ∧ ∀ s ∈ a.slots, s.data.size ≤ 1048576) := by
  unfold m_L_szPage m_L_szSlotS
  refine ok.call (P := fun r => r < 0 ∨ (a.slots.length ≤ 1048576 ∧ ∀ s ∈ a.slots, s.data.size ≤ 1048576)) ?_ fun r h => ?_
  · refine ok.chk (by omega) ?_
    refine ok.ite (fun _ => ok.some (.inl (by omega))) fun hc => ?_
    have hl : a.slots.length ≤ 1048576 := by omega
    refine ok.call (P := fun o => match o with | .inl r => (∀ s ∈ a.slots, s.data.size ≤ 1048576) | .inr r => r < 0) (ok.each a.slots.length (fun i s => s.2 = (i : Int) ∧ 0 ≤ s.1 ∧ s.1 ≤ 1048576 ∧ ∀ k (h : k < a.slots.length), k < i → a.slots[k].data.size ≤ 1048576) _ ?_ ?_ N 0 _ (Nat.zero_le _) ⟨rfl, by dsimp only; omega, by dsimp only; omega, fun k _ h => by omega⟩ (by omega)) ?_
    · rintro i ⟨lft, j⟩ hi ⟨rfl, h1, h2, h3⟩
      dsimp only at h1 h2 ⊢
      have hs := hd _ (List.getElem_mem hi)
      unfold m_L_szSlotS_b1 m_L_szSlot
      refine ok.ift (by omega) (ok.eq (ixI_nat hi) ?_)
      refine ok.call (P := fun r => r < 0 ∨ (0 ≤ r ∧ r = lft - (a.slots[i].data.size : Int))) ?_ fun r hr => ?_
      · refine ok.chk (by omega) (ok.ite (fun _ => ok.some (.inl (by omega))) fun _ => ok.some (.inr (by omega)))
      · refine ok.ite (fun _ => ok.some (by omega)) fun _ => ok.chk (by omega) (ok.some ⟨rfl, by dsimp only; omega, by dsimp only; omega, fun k h4 h5 => ?_⟩)
        rcases Nat.lt_succ_iff_lt_or_eq.1 h5 with h6 | h6
        · exact h3 k h4 h6
        · subst h6; omega
    · rintro ⟨lft, j⟩ ⟨rfl, h1, h2, h3⟩
      dsimp only at h1 h2 ⊢
      unfold m_L_szSlotS_b1
      refine ok.iff (by omega) (ok.some ?_)
      intro s hs
      obtain ⟨k, hk, rfl⟩ := List.getElem_of_mem hs
      exact h3 k hk hk
    · rintro (r | r) hr
      · exact ok.some (.inr ⟨hl, hr⟩)
      · exact ok.some (.inl hr)
  · exact ok.ite (fun _ => ok.some (.inl (by omega))) fun _ => ok.some h
end
end V
end Go.Proofs.Ytoljdhdfijnjiaa
