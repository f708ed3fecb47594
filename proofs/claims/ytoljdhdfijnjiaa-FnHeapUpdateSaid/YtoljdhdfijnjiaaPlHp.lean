/- What the functions of the heaps compute, in plain words. No condition. -/
import Derived.Test.YtoljdhdfijnjiaaPlPgB
import Derived.Test.YtoljdhdfijnjiaaHpAa
namespace Go.Proofs.Ytoljdhdfijnjiaa
namespace V
set_option linter.unusedVariables false
set_option linter.unusedSimpArgs false
set_option maxHeartbeats 1000000
/-- A heap that is valid. -/
def vH (h : I_Heap) : Prop := h.pages.length ≤ 6 ∧ ∀ p ∈ h.pages, vP p
noncomputable instance (h : I_Heap) : Decidable (vH h) := Classical.propDecidable _
/-- Pages that a machine can hold. -/
structure HB (l : List I_Page) : Prop where
  len : l.length ≤ 1000000
  pg : ∀ p ∈ l, PB p.slots
/-- A record put on the first page with room. -/
noncomputable def insP (l : List I_Page) (d : ByteArray) : I_Heap × I_Rid × Bool :=
  match l[l.findIdx (fun p => (putP p d).2.2)]? with
  | some p => (⟨l.set (l.findIdx (fun p => (putP p d).2.2)) (putP p d).1⟩, ⟨(l.findIdx (fun p => (putP p d).2.2) : Nat), (putP p d).2.1⟩, true)
  | none => if (putP ⟨[]⟩ d).2.2 = true ∧ l.length ≠ 6 then (⟨l ++ [(putP ⟨[]⟩ d).1]⟩, ⟨(l.length : Nat), (putP ⟨[]⟩ d).2.1⟩, true) else (⟨[]⟩, ⟨0, 0⟩, false)
noncomputable def hIns (h : I_Heap) (d : ByteArray) : I_Heap × I_Rid × Bool := if vH h then insP h.pages d else (⟨[]⟩, ⟨0, 0⟩, false)
noncomputable def hDel (h : I_Heap) (r : I_Rid) : I_Heap × Bool :=
  if vH h ∧ 0 ≤ r.page then (match h.pages[r.page.toNat]? with
    | some p => if (clearP p r.slot).2 = true then (⟨h.pages.set r.page.toNat (clearP p r.slot).1⟩, true) else (⟨[]⟩, false)
    | none => (⟨[]⟩, false)) else (⟨[]⟩, false)
noncomputable def hUpd (h : I_Heap) (r : I_Rid) (d : ByteArray) : I_Heap × I_Rid × Bool :=
  if vH h ∧ 0 ≤ r.page then (match h.pages[r.page.toNat]? with
    | some p => if (setP p r.slot d).2 = true then (⟨h.pages.set r.page.toNat (setP p r.slot d).1⟩, r, true)
      else if (clearP p r.slot).2 = true then insP (h.pages.set r.page.toNat (clearP p r.slot).1) d else (⟨[]⟩, ⟨0, 0⟩, false)
    | none => (⟨[]⟩, ⟨0, 0⟩, false)) else (⟨[]⟩, ⟨0, 0⟩, false)
noncomputable def hGet (h : I_Heap) (r : I_Rid) : ByteArray × Bool :=
  if vH h ∧ 0 ≤ r.page then (match h.pages[r.page.toNat]? with
    | some p => getP p r.slot
    | none => (ByteArray.empty, false)) else (ByteArray.empty, false)
def scanS (i : Int) : List I_Slot → Nat → List I_Rid
  | [], _ => []
  | s :: l, j => (if s.live = true then [⟨i, (j : Nat)⟩] else []) ++ scanS i l (j + 1)
def scanL : List I_Page → Nat → List I_Rid
  | [], _ => []
  | p :: l, i => scanS (i : Nat) p.slots 0 ++ scanL l (i + 1)
noncomputable def hScan (h : I_Heap) : List I_Rid := if vH h then scanL h.pages 0 else []
theorem scanS_cons (i : Int) (s : I_Slot) (l : List I_Slot) (j : Nat) : scanS i (s :: l) j = (if s.live = true then [⟨i, (j : Nat)⟩] else []) ++ scanS i l (j + 1) := rfl
theorem scanS_le (i : Int) : ∀ (l : List I_Slot) (j : Nat), (scanS i l j).length ≤ l.length
  | [], _ => Nat.le_refl _
  | s :: l, j => by
    have := scanS_le i l (j + 1)
    unfold scanS; split <;> simp <;> omega
theorem vP_set {p : I_Page} {k : Int} {d : ByteArray} (h : (setP p k d).2 = true) : vP (setP p k d).1 ∧ lvP p k := by
  unfold setP at h ⊢
  split at h
  · rename_i h1
    rw [if_pos h1]
    split at h
    · rename_i h2; rw [if_pos h2]; exact ⟨h2, h1⟩
    · cases h
  · cases h
section
variable {N : Nat} (hN : 100000000 ≤ N)
include hN
theorem vHI {h : I_Heap} (hb : HB h.pages) : m_I_ValidHeap N h = some (decide (vH h)) := by
  refine bool_eq ?_
  unfold m_I_ValidHeap
  have hl := hb.len
  by_cases h6 : 6 < h.pages.length
  · refine ok.ift (by omega) (ok.some ?_)
    simp [vH]; omega
  refine ok.iff (by omega) ?_
  refine ok.call (P := fun o => match o with | .inl _ => ∀ p ∈ h.pages, vP p | .inr v => v = false ∧ ¬ vH h) (ok.each h.pages.length (fun i s => s = (i : Int) ∧ ∀ k (h1 : k < h.pages.length), k < i → vP h.pages[k]) _ ?_ ?_ N 0 0 (Nat.zero_le _) ⟨rfl, fun k _ h => by omega⟩ (by omega)) ?_
  · rintro i _ hi ⟨rfl, hg⟩
    unfold m_I_ValidHeap_b1
    repeat' (first | (with_reducible refine ok.some ?_) | ((with_reducible refine ok.eq (ixI_nat hi) ?_)) | ((with_reducible refine ok.eq (validPI hN (hb.pg _ (List.getElem_mem hi))) ?_)) | (with_reducible refine ok.ite (fun hc => ?_) (fun hc => ?_)) | (with_reducible refine ok.cond (fun hc => ?_) (fun hc => ?_)) | (with_reducible refine ok.chk (by omega) ?_) | (with_reducible refine ok.bs ?_) | (with_reducible refine ok.remM (by omega) (fun _ hq => ?_)) | (with_reducible refine ok.quoM (by omega) (fun _ hq => ?_)) | (with_reducible refine ok.ix (by omega) (by omega) (fun q hq he => ?_)))
    · refine ⟨by simp, fun k h1 h2 => ?_⟩
      rcases Nat.lt_succ_iff_lt_or_eq.1 h2 with h4 | h4
      · exact hg k h1 h4
      · subst h4; exact hc
    · exact ⟨rfl, fun hv => hc (hv.2 _ (List.getElem_mem hi))⟩
    · omega
  · rintro _ ⟨rfl, hg⟩
    unfold m_I_ValidHeap_b1
    repeat' (first | (with_reducible refine ok.some ?_) | (with_reducible refine ok.iff (by omega) ?_) | (with_reducible refine ok.ite (fun hc => ?_) (fun hc => ?_)) | (with_reducible refine ok.cond (fun hc => ?_) (fun hc => ?_)) | (with_reducible refine ok.chk (by omega) ?_) | (with_reducible refine ok.bs ?_) | (with_reducible refine ok.remM (by omega) (fun _ hq => ?_)) | (with_reducible refine ok.quoM (by omega) (fun _ hq => ?_)) | (with_reducible refine ok.ix (by omega) (by omega) (fun q hq he => ?_)))
    intro s hs
    obtain ⟨k, hk, rfl⟩ := List.getElem_of_mem hs
    exact hg k hk hk
  · rintro (u | r) hq
    · exact ok.some ⟨fun _ => ⟨by omega, hq⟩, fun _ => rfl⟩
    · exact ok.some (by simp [hq.1, hq.2])
theorem vHS {h : I_Heap} (hb : HB h.pages) : m_S_validHeap N h = some (decide (vH h)) := by
  refine bool_eq ?_
  unfold m_S_validHeap
  have hl := hb.len
  refine ok.call (P := fun o => match o with | .inl _ => ∀ p ∈ h.pages, vP p | .inr v => v = false ∧ ¬ vH h) (ok.each h.pages.length (fun i s => s = (i : Int) ∧ ∀ k (h1 : k < h.pages.length), k < i → vP h.pages[k]) _ ?_ ?_ N 0 0 (Nat.zero_le _) ⟨rfl, fun k _ h => by omega⟩ (by omega)) ?_
  · rintro i _ hi ⟨rfl, hg⟩
    unfold m_S_validHeap_b1
    repeat' (first | (with_reducible refine ok.some ?_) | ((with_reducible refine ok.eq (ixI_nat hi) ?_)) | ((with_reducible refine ok.eq (validPS hN (hb.pg _ (List.getElem_mem hi))) ?_)) | (with_reducible refine ok.ite (fun hc => ?_) (fun hc => ?_)) | (with_reducible refine ok.cond (fun hc => ?_) (fun hc => ?_)) | (with_reducible refine ok.chk (by omega) ?_) | (with_reducible refine ok.bs ?_) | (with_reducible refine ok.remM (by omega) (fun _ hq => ?_)) | (with_reducible refine ok.quoM (by omega) (fun _ hq => ?_)) | (with_reducible refine ok.ix (by omega) (by omega) (fun q hq he => ?_)))
    · refine ⟨by simp, fun k h1 h2 => ?_⟩
      rcases Nat.lt_succ_iff_lt_or_eq.1 h2 with h4 | h4
      · exact hg k h1 h4
      · subst h4; exact hc
    · exact ⟨rfl, fun hv => hc (hv.2 _ (List.getElem_mem hi))⟩
    · omega
  · rintro _ ⟨rfl, hg⟩
    unfold m_S_validHeap_b1
    repeat' (first | (with_reducible refine ok.some ?_) | (with_reducible refine ok.iff (by omega) ?_) | (with_reducible refine ok.ite (fun hc => ?_) (fun hc => ?_)) | (with_reducible refine ok.cond (fun hc => ?_) (fun hc => ?_)) | (with_reducible refine ok.chk (by omega) ?_) | (with_reducible refine ok.bs ?_) | (with_reducible refine ok.remM (by omega) (fun _ hq => ?_)) | (with_reducible refine ok.quoM (by omega) (fun _ hq => ?_)) | (with_reducible refine ok.ix (by omega) (by omega) (fun q hq he => ?_)))
    intro s hs
    obtain ⟨k, hk, rfl⟩ := List.getElem_of_mem hs
    exact hg k hk hk
  · rintro (u | r) hq
    · show ok (m_S_validHeap_k1 N h) _
      unfold m_S_validHeap_k1
      refine ok.some ⟨fun h6 => ⟨by have := of_decide_eq_true h6; omega, hq⟩, fun h => decide_eq_true (by have := h.1; omega)⟩
    · exact ok.some (by simp [hq.1, hq.2])
theorem cloneH {h : I_Heap} (hb : HB h.pages) : m_I_Heap_clone N h = some h := by
  refine ok.val ?_
  unfold m_I_Heap_clone
  have hl := hb.len
  refine ok.call (ok.each h.pages.length (fun i s => s = ((i : Int), h.pages.take i)) (fun b => b = h.pages) ?_ ?_ N 0 _ (Nat.zero_le _) rfl (by omega)) ?_
  · rintro i _ hi rfl
    unfold m_I_Heap_clone_b1
    dsimp only
    repeat' (first | (with_reducible refine ok.some ?_) | ((with_reducible refine ok.eq (ixI_nat hi) ?_)) | ((with_reducible refine ok.eq (cloneP (hb.pg _ (List.getElem_mem hi))) ?_)) | ((with_reducible refine ok.app ⟨by simp; omega, by simp; omega⟩ ?_)) | (with_reducible refine ok.ite (fun hc => ?_) (fun hc => ?_)) | (with_reducible refine ok.cond (fun hc => ?_) (fun hc => ?_)) | (with_reducible refine ok.chk (by omega) ?_) | (with_reducible refine ok.bs ?_) | (with_reducible refine ok.remM (by omega) (fun _ hq => ?_)) | (with_reducible refine ok.quoM (by omega) (fun _ hq => ?_)) | (with_reducible refine ok.ix (by omega) (by omega) (fun q hq he => ?_)))
    · show _ = _
      simp
    · omega
  · rintro _ rfl
    unfold m_I_Heap_clone_b1
    repeat' (first | (with_reducible refine ok.some ?_) | (with_reducible refine ok.iff (by omega) ?_) | (with_reducible refine ok.ite (fun hc => ?_) (fun hc => ?_)) | (with_reducible refine ok.cond (fun hc => ?_) (fun hc => ?_)) | (with_reducible refine ok.chk (by omega) ?_) | (with_reducible refine ok.bs ?_) | (with_reducible refine ok.remM (by omega) (fun _ hq => ?_)) | (with_reducible refine ok.quoM (by omega) (fun _ hq => ?_)) | (with_reducible refine ok.ix (by omega) (by omega) (fun q hq he => ?_)))
    simp
  · rintro e rfl
    exact ok.some rfl
theorem copyH {h : I_Heap} (hb : HB h.pages) : m_S_copyHeap N h = some h := by
  refine ok.val ?_
  unfold m_S_copyHeap
  have hl := hb.len
  refine ok.call (ok.each h.pages.length (fun i s => s = ((i : Int), h.pages.take i)) (fun b => b = h.pages) ?_ ?_ N 0 _ (Nat.zero_le _) rfl (by omega)) ?_
  · rintro i _ hi rfl
    have h4 := (hb.pg _ (List.getElem_mem hi)).len
    unfold m_S_copyHeap_b1
    dsimp only
    repeat' (first | (with_reducible refine ok.some ?_) | ((with_reducible refine ok.eq (ixI_nat hi) ?_)) | ((with_reducible refine ok.app ⟨by simp; omega, by simp; omega⟩ ?_)) | (with_reducible refine ok.ite (fun hc => ?_) (fun hc => ?_)) | (with_reducible refine ok.cond (fun hc => ?_) (fun hc => ?_)) | (with_reducible refine ok.chk (by omega) ?_) | (with_reducible refine ok.bs ?_) | (with_reducible refine ok.remM (by omega) (fun _ hq => ?_)) | (with_reducible refine ok.quoM (by omega) (fun _ hq => ?_)) | (with_reducible refine ok.ix (by omega) (by omega) (fun q hq he => ?_)))
    · show ((i : Int) + 1, h.pages.take i ++ [h.pages[i]]) = _
      simp
    · omega
  · rintro _ rfl
    unfold m_S_copyHeap_b1
    repeat' (first | (with_reducible refine ok.some ?_) | (with_reducible refine ok.iff (by omega) ?_) | (with_reducible refine ok.ite (fun hc => ?_) (fun hc => ?_)) | (with_reducible refine ok.cond (fun hc => ?_) (fun hc => ?_)) | (with_reducible refine ok.chk (by omega) ?_) | (with_reducible refine ok.bs ?_) | (with_reducible refine ok.remM (by omega) (fun _ hq => ?_)) | (with_reducible refine ok.quoM (by omega) (fun _ hq => ?_)) | (with_reducible refine ok.ix (by omega) (by omega) (fun q hq he => ?_)))
    simp
  · rintro e rfl
    exact ok.some rfl
theorem insI {h : I_Heap} {d : ByteArray} (hb : HB h.pages) (hd : d.size ≤ 1000000000) : m_I_HeapInsert N h d = some (hIns h d) := by
  refine ok.val ?_
  unfold m_I_HeapInsert hIns
  have hl := hb.len
  refine ok.eq (vHI hN hb) ?_
  refine ok.ite (fun hv => ?_) fun hv => ok.some (by rw [if_neg hv])
  rw [if_pos hv]
  refine ok.eq (cloneH hN hb) ?_
  unfold insP
  generalize hk : h.pages.findIdx (fun p => (putP p d).2.2) = k
  have hkl : k ≤ h.pages.length := by rw [← hk]; exact List.findIdx_le_length
  have hlt : ∀ i (hi : i < h.pages.length), i < k → (putP h.pages[i] d).2.2 = false := fun i hi h1 => by
    have := List.not_of_lt_findIdx (p := fun p => (putP p d).2.2) (xs := h.pages) (i := i) (by rw [hk]; exact h1)
    simpa using this
  have hat : ∀ (hi : k < h.pages.length), (putP h.pages[k] d).2.2 = true := fun hi => by
    subst hk; exact List.findIdx_getElem (w := hi)
  refine ok.call (P := fun o => match o with | .inl _ => k = h.pages.length | .inr v => ∃ hi : k < h.pages.length, v = (⟨h.pages.set k (putP h.pages[k] d).1⟩, ⟨(k : Nat), (putP h.pages[k] d).2.1⟩, true)) (ok.each h.pages.length (fun i s => s = (i : Int) ∧ i ≤ k) _ ?_ ?_ N 0 0 (Nat.zero_le _) ⟨rfl, Nat.zero_le _⟩ (by omega)) ?_
  · rintro i _ hi ⟨rfl, hg⟩
    unfold m_I_HeapInsert_b1
    repeat' (first | (with_reducible refine ok.some ?_) | ((with_reducible refine ok.eq (ixI_nat hi) ?_)) | ((with_reducible refine ok.eq (putI hN (hb.pg _ (List.getElem_mem hi)) hd) ?_)) | (with_reducible refine ok.ite (fun hc => ?_) (fun hc => ?_)) | (with_reducible refine ok.cond (fun hc => ?_) (fun hc => ?_)) | (with_reducible refine ok.chk (by omega) ?_) | (with_reducible refine ok.bs ?_) | (with_reducible refine ok.remM (by omega) (fun _ hq => ?_)) | (with_reducible refine ok.quoM (by omega) (fun _ hq => ?_)) | (with_reducible refine ok.ix (by omega) (by omega) (fun q hq he => ?_)))
    · have : i = k := by
        rcases Nat.lt_or_ge i k with h1 | h1
        · rw [hlt i hi h1] at hc; cases hc
        · omega
      subst this
      exact ⟨hi, by simp⟩
    · refine ⟨by simp, ?_⟩
      rcases Nat.lt_or_ge i k with h1 | h1
      · exact h1
      · obtain rfl : i = k := by omega
        rw [hat hi] at hc; cases hc
    · omega
  · rintro _ ⟨rfl, hg⟩
    unfold m_I_HeapInsert_b1
    repeat' (first | (with_reducible refine ok.some ?_) | (with_reducible refine ok.iff (by omega) ?_) | (with_reducible refine ok.ite (fun hc => ?_) (fun hc => ?_)) | (with_reducible refine ok.cond (fun hc => ?_) (fun hc => ?_)) | (with_reducible refine ok.chk (by omega) ?_) | (with_reducible refine ok.bs ?_) | (with_reducible refine ok.remM (by omega) (fun _ hq => ?_)) | (with_reducible refine ok.quoM (by omega) (fun _ hq => ?_)) | (with_reducible refine ok.ix (by omega) (by omega) (fun q hq he => ?_)))
    show _ = _
    omega
  · rintro (u | r) hq
    · have hq : k = h.pages.length := hq
      rw [List.getElem?_eq_none (by omega)]
      show ok (m_I_HeapInsert_k1 N d h) _
      unfold m_I_HeapInsert_k1
      refine ok.eq (putI hN PB.nil hd) ?_
      refine ok.cond (fun h1 => ?_) fun h1 => ok.some (by simp [h1])
      refine ok.ite (fun h2 => ok.some (by rw [if_neg (by omega)])) fun h2 => ?_
      refine ok.app ⟨by simp; omega, by simp; omega⟩ ?_
      refine ok.chk (by simp; omega) (ok.some ?_)
      rw [if_pos ⟨h1, by omega⟩]
      simp
    · obtain ⟨hi, rfl⟩ := hq
      rw [List.getElem?_eq_getElem hi]
      exact ok.some rfl
theorem insS {h : I_Heap} {d : ByteArray} (hb : HB h.pages) (hd : d.size ≤ 1000000000) : m_S_insert N h d = some (insP h.pages d) := by
  refine ok.val ?_
  unfold m_S_insert
  have hl := hb.len
  refine ok.eq (copyH hN hb) ?_
  unfold insP
  generalize hk : h.pages.findIdx (fun p => (putP p d).2.2) = k
  have hkl : k ≤ h.pages.length := by rw [← hk]; exact List.findIdx_le_length
  have hlt : ∀ i (hi : i < h.pages.length), i < k → (putP h.pages[i] d).2.2 = false := fun i hi h1 => by
    have := List.not_of_lt_findIdx (p := fun p => (putP p d).2.2) (xs := h.pages) (i := i) (by rw [hk]; exact h1)
    simpa using this
  have hat : ∀ (hi : k < h.pages.length), (putP h.pages[k] d).2.2 = true := fun hi => by
    subst hk; exact List.findIdx_getElem (w := hi)
  refine ok.call (P := fun o => match o with | .inl _ => k = h.pages.length | .inr v => ∃ hi : k < h.pages.length, v = (⟨h.pages.set k (putP h.pages[k] d).1⟩, ⟨(k : Nat), (putP h.pages[k] d).2.1⟩, true)) (ok.each h.pages.length (fun i s => s = (i : Int) ∧ i ≤ k) _ ?_ ?_ N 0 0 (Nat.zero_le _) ⟨rfl, Nat.zero_le _⟩ (by omega)) ?_
  · rintro i _ hi ⟨rfl, hg⟩
    unfold m_S_insert_b1
    repeat' (first | (with_reducible refine ok.some ?_) | ((with_reducible refine ok.eq (ixI_nat hi) ?_)) | ((with_reducible refine ok.eq (putS hN (hb.pg _ (List.getElem_mem hi)) hd) ?_)) | (with_reducible refine ok.ite (fun hc => ?_) (fun hc => ?_)) | (with_reducible refine ok.cond (fun hc => ?_) (fun hc => ?_)) | (with_reducible refine ok.chk (by omega) ?_) | (with_reducible refine ok.bs ?_) | (with_reducible refine ok.remM (by omega) (fun _ hq => ?_)) | (with_reducible refine ok.quoM (by omega) (fun _ hq => ?_)) | (with_reducible refine ok.ix (by omega) (by omega) (fun q hq he => ?_)))
    · have : i = k := by
        rcases Nat.lt_or_ge i k with h1 | h1
        · rw [hlt i hi h1] at hc; cases hc
        · omega
      subst this
      exact ⟨hi, by simp⟩
    · refine ⟨by simp, ?_⟩
      rcases Nat.lt_or_ge i k with h1 | h1
      · exact h1
      · obtain rfl : i = k := by omega
        rw [hat hi] at hc; cases hc
    · omega
  · rintro _ ⟨rfl, hg⟩
    unfold m_S_insert_b1
    repeat' (first | (with_reducible refine ok.some ?_) | (with_reducible refine ok.iff (by omega) ?_) | (with_reducible refine ok.ite (fun hc => ?_) (fun hc => ?_)) | (with_reducible refine ok.cond (fun hc => ?_) (fun hc => ?_)) | (with_reducible refine ok.chk (by omega) ?_) | (with_reducible refine ok.bs ?_) | (with_reducible refine ok.remM (by omega) (fun _ hq => ?_)) | (with_reducible refine ok.quoM (by omega) (fun _ hq => ?_)) | (with_reducible refine ok.ix (by omega) (by omega) (fun q hq he => ?_)))
    show _ = _
    omega
  · rintro (u | r) hq
    · have hq : k = h.pages.length := hq
      rw [List.getElem?_eq_none (by omega)]
      show ok (m_S_insert_k1 N h d h) _
      unfold m_S_insert_k1
      refine ok.eq (putS hN PB.nil hd) ?_
      refine ok.cond (fun h1 => ?_) fun h1 => ok.some (by simp [h1])
      refine ok.ite (fun h2 => ok.some (by rw [if_neg (by omega)])) fun h2 => ?_
      refine ok.app ⟨by simp; omega, by simp; omega⟩ ?_
      refine ok.some ?_
      rw [if_pos ⟨h1, by omega⟩]
    · obtain ⟨hi, rfl⟩ := hq
      rw [List.getElem?_eq_getElem hi]
      exact ok.some rfl
theorem hInsS {h : I_Heap} {d : ByteArray} (hb : HB h.pages) (hd : d.size ≤ 1000000000) : m_S_HeapInsert N h d = some (hIns h d) := by
  unfold m_S_HeapInsert hIns
  rw [vHS hN hb]
  by_cases hv : vH h
  · simp only [Option.bind_some, decide_eq_true hv, cond_true, if_pos hv, insS hN hb hd]
  · simp [hv]
theorem delI {h : I_Heap} {r : I_Rid} (hb : HB h.pages) : m_I_HeapDelete N h r = some (hDel h r) := by
  refine ok.val ?_
  unfold m_I_HeapDelete hDel m_I_Heap_has
  refine ok.eq (vHI hN hb) ?_
  refine ok.ite (fun hv => ?_) fun hv => ok.some (by rw [if_neg (fun h => hv h.1)])
  by_cases h0 : 0 ≤ r.page
  case neg =>
    rw [if_neg (fun h => h0 h.2), decide_eq_false h0]
    exact ok.some rfl
  rw [if_pos ⟨hv, h0⟩, decide_eq_true h0, cond_true]
  refine ok.bs ?_
  refine ok.ite (fun h1 => ?_) fun h1 => ok.some (by rw [List.getElem?_eq_none (by omega)])
  have hlt : r.page.toNat < h.pages.length := by omega
  refine ok.eq (ixI_eq (n := r.page.toNat) (by omega) hlt) ?_
  rw [List.getElem?_eq_getElem hlt]
  refine ok.eq (clearI hN (hb.pg _ (List.getElem_mem hlt))) ?_
  refine ok.cond (fun h2 => ?_) fun h2 => ok.some (by simp [h2])
  refine ok.eq (cloneH hN hb) (ok.eq (ixI_eq (n := r.page.toNat) (by omega) hlt) (ok.some ?_))
  dsimp only
  rw [if_pos h2]
theorem delS {h : I_Heap} {r : I_Rid} (hb : HB h.pages) : m_S_HeapDelete N h r = some (hDel h r) := by
  refine ok.val ?_
  unfold m_S_HeapDelete hDel
  have hl := hb.len
  refine ok.eq (vHS hN hb) ?_
  refine ok.ite (fun hv => ?_) fun hv => ok.some (by rw [if_neg (fun h => hv h.1)])
  refine ok.chk (by omega) ?_
  refine ok.eq (inRange_eq N _ _ _) ?_
  by_cases h0 : 0 ≤ r.page
  case neg =>
    rw [if_neg (fun h => h0 h.2), decide_eq_false (fun h => h0 h.1)]
    exact ok.some rfl
  rw [if_pos ⟨hv, h0⟩]
  refine ok.ite (fun h1 => ?_) fun h1 => ok.some (by rw [List.getElem?_eq_none (by omega)])
  have hlt : r.page.toNat < h.pages.length := by omega
  refine ok.eq (ixI_eq (n := r.page.toNat) (by omega) hlt) ?_
  rw [List.getElem?_eq_getElem hlt]
  refine ok.eq (clearS hN (hb.pg _ (List.getElem_mem hlt))) ?_
  refine ok.cond (fun h2 => ?_) fun h2 => ok.some (by simp [h2])
  refine ok.eq (copyH hN hb) (ok.eq (ixI_eq (n := r.page.toNat) (by omega) hlt) (ok.some ?_))
  dsimp only
  rw [if_pos h2]
theorem gI {h : I_Heap} {r : I_Rid} (hb : HB h.pages) : m_I_HeapGet N h r = some (hGet h r) := by
  refine ok.val ?_
  unfold m_I_HeapGet hGet m_I_Heap_has
  refine ok.eq (vHI hN hb) ?_
  refine ok.ite (fun hv => ?_) fun hv => ok.some (by rw [if_neg (fun h => hv h.1)])
  by_cases h0 : 0 ≤ r.page
  case neg =>
    rw [if_neg (fun h => h0 h.2), decide_eq_false h0]
    exact ok.some rfl
  rw [if_pos ⟨hv, h0⟩, decide_eq_true h0, cond_true]
  refine ok.bs ?_
  refine ok.ite (fun h1 => ?_) fun h1 => ok.some (by rw [List.getElem?_eq_none (by omega)])
  have hlt : r.page.toNat < h.pages.length := by omega
  refine ok.eq (ixI_eq (n := r.page.toNat) (by omega) hlt) ?_
  rw [List.getElem?_eq_getElem hlt]
  refine ok.eq (getI hN (hb.pg _ (List.getElem_mem hlt))) (ok.some rfl)
omit hN in
theorem HB.set {l : List I_Page} (h : HB l) (i : Nat) {x : I_Page} (hx : PB x.slots) : HB (l.set i x) := ⟨by simpa using h.len, fun s hs => by
  rcases List.mem_or_eq_of_mem_set hs with h1 | h1
  · exact h.pg s h1
  · subst h1; exact hx⟩
omit hN in
theorem PB.clear {p : I_Page} (h : PB p.slots) (k : Int) : PB (clearP p k).1.slots := by
  unfold clearP; split
  · exact (h.set _ noSlot_small).trim
  · exact PB.nil
omit hN in
theorem clear_vP {p : I_Page} {k : Int} (h : (clearP p k).2 = true) : lvP p k := by
  unfold clearP at h; split at h
  · assumption
  · cases h
omit hN in
theorem set_clear {p : I_Page} {k : Int} {d : ByteArray} (h : (setP p k d).2 = true) : (clearP p k).2 = true := by
  unfold clearP; rw [if_pos (vP_set h).2]
theorem updS {h : I_Heap} {r : I_Rid} {d : ByteArray} (hb : HB h.pages) (hd : d.size ≤ 1000000000) : m_S_HeapUpdate N h r d = some (hUpd h r d) := by
  refine ok.val ?_
  unfold m_S_HeapUpdate hUpd
  refine ok.eq (delS hN hb) ?_
  unfold hDel
  by_cases hc : vH h ∧ 0 ≤ r.page
  case neg => rw [if_neg hc, if_neg hc]; exact ok.some rfl
  rw [if_pos hc, if_pos hc]
  cases hp : h.pages[r.page.toNat]? with
  | none => exact ok.some rfl
  | some p =>
    obtain ⟨hlt, hpe⟩ := List.getElem?_eq_some_iff.1 hp
    have hpb := hb.pg p (List.mem_of_getElem? hp)
    dsimp only
    by_cases h1 : (clearP p r.slot).2 = true
    case neg =>
      rw [if_neg h1]
      have h2 : ¬ (setP p r.slot d).2 = true := fun h => h1 (set_clear h)
      rw [if_neg h2, if_neg h1]
      exact ok.some rfl
    rw [if_pos h1]
    refine ok.bt rfl ?_
    refine ok.eq (ixI_eq (n := r.page.toNat) (by omega) hlt) ?_
    rw [hpe]
    refine ok.eq (setS hN hpb hd) ?_
    refine ok.cond (fun h2 => ?_) fun h2 => ?_
    · rw [if_pos h2]
      refine ok.eq (copyH hN hb) (ok.eq (ixI_eq (n := r.page.toNat) (by omega) hlt) (ok.some rfl))
    · rw [if_neg (by rw [h2]; simp), if_pos h1]
      refine ok.eq (insS hN (hb.set _ (hpb.clear _)) hd) (ok.some rfl)
end
/-- A page without a record is valid still. -/
theorem usedP_trim_le (l : List I_Slot) : usedP (trimP l) ≤ usedP l := usedP_take_le _ _
theorem vP_clearP {p : I_Page} {k : Int} (h : (clearP p k).2 = true) : vP (clearP p k).1 := by
  have hk := clear_vP h
  unfold clearP; rw [if_pos hk]
  have hlt := lvP_lt hk
  have hv := hk.1
  have h1 := usedP_trim_le (p.slots.set k.toNat noSlot)
  have h2 := usedP_set hlt noSlot
  have h3 : (noSlot.data.size : Int) = 0 := rfl
  have h5 := hv.1
  have h6 := hv.2.2.2
  refine ⟨?_, fun s hs hd => ?_, trimP_lastL _, ?_⟩
  · have : (trimP (p.slots.set k.toNat noSlot)).length ≤ p.slots.length := by
      unfold trimP; simp; omega
    show (trimP _).length ≤ 8
    omega
  · have hs : s ∈ p.slots.set k.toNat noSlot := List.mem_of_mem_take hs
    rcases List.mem_or_eq_of_mem_set hs with h7 | h7
    · exact hv.2.1 s h7 hd
    · subst h7; rfl
  · show usedP (trimP _) ≤ 100
    omega
theorem vH_set {h : I_Heap} (hv : vH h) {i : Nat} {p : I_Page} (hp : vP p) : vH ⟨h.pages.set i p⟩ := ⟨by simpa using hv.1, fun q hq => by
  rcases List.mem_or_eq_of_mem_set hq with h1 | h1
  · exact hv.2 q h1
  · subst h1; exact hp⟩
section
variable {N : Nat} (hN : 100000000 ≤ N)
include hN
theorem updI {h : I_Heap} {r : I_Rid} {d : ByteArray} (hb : HB h.pages) (hd : d.size ≤ 1000000000) : m_I_HeapUpdate N h r d = some (hUpd h r d) := by
  refine ok.val ?_
  unfold m_I_HeapUpdate hUpd m_I_Heap_has
  refine ok.eq (vHI hN hb) ?_
  refine ok.ite (fun hv => ?_) fun hv => ok.some (by rw [if_neg (fun h => hv h.1)])
  by_cases h0 : 0 ≤ r.page
  case neg =>
    rw [if_neg (fun h => h0 h.2), decide_eq_false h0]
    exact ok.some rfl
  rw [if_pos ⟨hv, h0⟩, decide_eq_true h0, cond_true]
  refine ok.bs ?_
  refine ok.ite (fun h1 => ?_) fun h1 => ok.some (by rw [List.getElem?_eq_none (by omega)])
  have hlt : r.page.toNat < h.pages.length := by omega
  refine ok.eq (ixI_eq (n := r.page.toNat) (by omega) hlt) ?_
  rw [List.getElem?_eq_getElem hlt]
  have hpb := hb.pg _ (List.getElem_mem hlt)
  refine ok.eq (setI hN hpb hd) ?_
  refine ok.cond (fun h2 => ?_) fun h2 => ?_
  · refine ok.eq (cloneH hN hb) (ok.eq (ixI_eq (n := r.page.toNat) (by omega) hlt) (ok.some ?_))
    dsimp only
    rw [if_pos h2]
  · dsimp only
    rw [if_neg (by rw [h2]; simp)]
    refine ok.eq (delI hN hb) ?_
    have hdel : hDel h r = if (clearP h.pages[r.page.toNat] r.slot).2 = true then (⟨h.pages.set r.page.toNat (clearP h.pages[r.page.toNat] r.slot).1⟩, true) else (⟨[]⟩, false) := by
      unfold hDel; rw [if_pos ⟨hv, h0⟩, List.getElem?_eq_getElem hlt]
    rw [hdel]
    by_cases h3 : (clearP h.pages[r.page.toNat] r.slot).2 = true
    · rw [if_pos h3, if_pos h3]
      refine ok.bt rfl ?_
      refine ok.eq (insI hN (hb.set _ (hpb.clear _)) hd) (ok.some ?_)
      have hv' : vH ⟨h.pages.set r.page.toNat (clearP h.pages[r.page.toNat] r.slot).1⟩ := vH_set hv (vP_clearP h3)
      unfold hIns
      dsimp only
      rw [if_pos hv']
    · rw [if_neg h3, if_neg h3]
      exact ok.bf rfl (ok.some rfl)
theorem scanI {h : I_Heap} (hb : HB h.pages) : m_I_HeapScan N h = some (hScan h) := by
  refine ok.val ?_
  unfold m_I_HeapScan hScan
  have hl := hb.len
  refine ok.eq (vHI hN hb) ?_
  refine ok.ite (fun hv => ?_) fun hv => ok.some (by rw [if_neg hv])
  rw [if_pos hv]
  have hv6 := hv.1
  have hdrop : ∀ i (hi : i < h.pages.length), scanL (h.pages.drop i) i = scanS (i : Nat) h.pages[i].slots 0 ++ scanL (h.pages.drop (i + 1)) (i + 1) := fun i hi => by
    rw [List.drop_eq_getElem_cons hi]; rfl
  refine ok.call (ok.each h.pages.length (fun i s => s.1 = (i : Int) ∧ s.2.length ≤ 8 * i ∧ s.2 ++ scanL (h.pages.drop i) i = scanL h.pages 0) (fun b => b = scanL h.pages 0) ?_ ?_ N 0 _ (Nat.zero_le _) ⟨rfl, by simp, by simp⟩ (by omega)) ?_
  · rintro i ⟨j, v⟩ hi ⟨rfl, hg1, hg2⟩
    dsimp only at hg1 hg2 ⊢
    have h8 := (hv.2 _ (List.getElem_mem hi)).1
    unfold m_I_HeapScan_b2
    refine ok.ift (by omega) ?_
    refine ok.eq (ixI_nat hi) ?_
    refine ok.call (ok.each h.pages[i].slots.length (fun k s => s.1 = (k : Int) ∧ s.2.length ≤ 8 * i + k ∧ s.2 ++ scanS (i : Nat) (h.pages[i].slots.drop k) k = v ++ scanS (i : Nat) h.pages[i].slots 0) (fun b => b = v ++ scanS (i : Nat) h.pages[i].slots 0) ?_ ?_ N 0 _ (Nat.zero_le _) ⟨rfl, by omega, by simp⟩ (by omega)) ?_
    · rintro k ⟨j, w⟩ hk ⟨rfl, hw1, hw2⟩
      dsimp only at hw1 hw2 ⊢
      unfold m_I_HeapScan_b3
      rw [List.drop_eq_getElem_cons hk] at hw2
      rw [scanS_cons] at hw2
      repeat' (first | (with_reducible refine ok.some ?_) | ((with_reducible refine ok.eq (ixI_nat hk) ?_)) | ((with_reducible refine ok.app ⟨by simp; omega, by simp; omega⟩ ?_)) | (with_reducible refine ok.ite (fun hc => ?_) (fun hc => ?_)) | (with_reducible refine ok.cond (fun hc => ?_) (fun hc => ?_)) | (with_reducible refine ok.chk (by omega) ?_) | (with_reducible refine ok.bs ?_) | (with_reducible refine ok.remM (by omega) (fun _ hq => ?_)) | (with_reducible refine ok.quoM (by omega) (fun _ hq => ?_)) | (with_reducible refine ok.ix (by omega) (by omega) (fun q hq he => ?_)))
      · rw [if_pos hc] at hw2
        exact ⟨by simp, by simp; omega, by simpa using hw2⟩
      · rw [if_neg (by rw [hc]; simp)] at hw2
        exact ⟨by simp, by dsimp only; omega, by simpa using hw2⟩
      · omega
    · rintro ⟨j, w⟩ ⟨rfl, hw1, hw2⟩
      dsimp only at hw1 hw2 ⊢
      unfold m_I_HeapScan_b3
      repeat' (first | (with_reducible refine ok.some ?_) | (with_reducible refine ok.iff (by omega) ?_) | (with_reducible refine ok.ite (fun hc => ?_) (fun hc => ?_)) | (with_reducible refine ok.cond (fun hc => ?_) (fun hc => ?_)) | (with_reducible refine ok.chk (by omega) ?_) | (with_reducible refine ok.bs ?_) | (with_reducible refine ok.remM (by omega) (fun _ hq => ?_)) | (with_reducible refine ok.quoM (by omega) (fun _ hq => ?_)) | (with_reducible refine ok.ix (by omega) (by omega) (fun q hq he => ?_)))
      simpa [scanS] using hw2
    · rintro e rfl
      unfold m_I_HeapScan_k3
      have hle := scanS_le (i : Nat) h.pages[i].slots 0
      repeat' (first | (with_reducible refine ok.some ?_) | (with_reducible refine ok.ite (fun hc => ?_) (fun hc => ?_)) | (with_reducible refine ok.cond (fun hc => ?_) (fun hc => ?_)) | (with_reducible refine ok.chk (by omega) ?_) | (with_reducible refine ok.bs ?_) | (with_reducible refine ok.remM (by omega) (fun _ hq => ?_)) | (with_reducible refine ok.quoM (by omega) (fun _ hq => ?_)) | (with_reducible refine ok.ix (by omega) (by omega) (fun q hq he => ?_)))
      refine ⟨by simp, by simp; omega, ?_⟩
      rw [hdrop i hi] at hg2
      simpa using hg2
  · rintro ⟨j, v⟩ ⟨rfl, hg1, hg2⟩
    dsimp only at hg1 hg2 ⊢
    unfold m_I_HeapScan_b2
    repeat' (first | (with_reducible refine ok.some ?_) | (with_reducible refine ok.iff (by omega) ?_) | (with_reducible refine ok.ite (fun hc => ?_) (fun hc => ?_)) | (with_reducible refine ok.cond (fun hc => ?_) (fun hc => ?_)) | (with_reducible refine ok.chk (by omega) ?_) | (with_reducible refine ok.bs ?_) | (with_reducible refine ok.remM (by omega) (fun _ hq => ?_)) | (with_reducible refine ok.quoM (by omega) (fun _ hq => ?_)) | (with_reducible refine ok.ix (by omega) (by omega) (fun q hq he => ?_)))
    simpa [scanL] using hg2
  · rintro e rfl
    exact ok.some rfl
end
end V
end Go.Proofs.Ytoljdhdfijnjiaa
