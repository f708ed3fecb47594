/- What the rows need, part 5. No condition. -/
import Derived.Test.YtmnjnkcooofgjaaRows
import Derived.ProofKit
import Derived.Test.YtmnjnkcooofgjaaQHuD
namespace Go.Proofs.Ytmnjnkcooofgjaa
namespace V
set_option linter.unusedVariables false
set_option linter.unusedSimpArgs false
set_option maxHeartbeats 1000000
abbrev noSlot : I_Slot := ⟨false, ByteArray.empty⟩
theorem noSlot_small : noSlot.data.size ≤ 1000000000 := by decide
/-- The number of the first slot that is free. -/
def freeAt (l : List I_Slot) : Nat := l.findIdx (fun s => !s.live)
theorem freeAt_le (l : List I_Slot) : freeAt l ≤ l.length := List.findIdx_le_length
theorem freeAt_live {l : List I_Slot} {k : Nat} (h : k < freeAt l) (hk : k < l.length) : l[k].live = true := by
  have := List.not_of_lt_findIdx h
  simpa using this
theorem freeAt_free {l : List I_Slot} (h : freeAt l < l.length) : (l[freeAt l]).live = false := by
  have this : (fun s : I_Slot => !s.live) (l[freeAt l]) = true := List.findIdx_getElem (w := h)
  cases hc : (l[freeAt l]).live with
  | false => rfl
  | true => simp [hc] at this
def withS (l : List I_Slot) (k : Nat) (s : I_Slot) : List I_Slot := if k < l.length then l.set k s else l ++ [s]
/-- How many slots there are up to the last live one below n. -/
def trimN (l : List I_Slot) : Nat → Nat
  | 0 => 0
  | n + 1 => match l[n]? with
    | some s => if s.live = true then n + 1 else trimN l n
    | none => trimN l n
theorem trimN_succ (l : List I_Slot) {n : Nat} (h : n < l.length) : trimN l (n + 1) = if l[n].live = true then n + 1 else trimN l n := by simp [trimN, List.getElem?_eq_getElem h]
def trimP (l : List I_Slot) : List I_Slot := l.take (trimN l l.length)
theorem trimN_le (l : List I_Slot) : ∀ n, trimN l n ≤ n
  | 0 => Nat.le_refl _
  | n + 1 => by
    unfold trimN
    have := trimN_le l n
    split
    · split <;> omega
    · omega
theorem trimN_last {l : List I_Slot} (h : lastL l) : trimN l l.length = l.length := by
  cases hl : l.length with
  | zero => rfl
  | succ n =>
    unfold trimN
    have hn : n < l.length := by omega
    rw [List.getElem?_eq_getElem hn]
    have := h l[n] (by rw [hl]; simp [List.getElem?_eq_getElem hn])
    simp [this]
theorem trimP_last {l : List I_Slot} (h : lastL l) : trimP l = l := by
  unfold trimP; rw [trimN_last h]; simp
theorem lastL_trim (l : List I_Slot) : ∀ n, n ≤ l.length → lastL (l.take (trimN l n))
  | 0, _ => by intro s h; simp [trimN] at h
  | n + 1, hn => by
    have hlt : n < l.length := by omega
    rw [trimN_succ l hlt]
    split
    · rename_i hc
      intro s h
      have hlen : (l.take (n + 1)).length - 1 = n := by simp; omega
      rw [hlen, List.getElem?_take, if_pos (by omega), List.getElem?_eq_getElem hlt] at h
      cases h; exact hc
    · exact lastL_trim l n (by omega)
theorem trimP_lastL (l : List I_Slot) : lastL (trimP l) := lastL_trim l _ (Nat.le_refl _)
theorem lastL_set {l : List I_Slot} (h : lastL l) {k : Nat} {x : I_Slot} (hx : x.live = true) : lastL (l.set k x) := by
  intro s hs
  rw [List.length_set, List.getElem?_set] at hs
  split at hs
  · split at hs
    · cases hs; exact hx
    · cases hs
  · exact h s hs
theorem lastL_snoc {l : List I_Slot} {x : I_Slot} (hx : x.live = true) : lastL (l ++ [x]) := by
  intro s hs
  rw [List.getElem?_append_right (by simp)] at hs
  simp at hs; subst hs; exact hx
theorem lastL_with {l : List I_Slot} (h : lastL l) {k : Nat} {x : I_Slot} (hx : x.live = true) : lastL (withS l k x) := by
  unfold withS; split
  · exact lastL_set h hx
  · exact lastL_snoc hx
noncomputable def putP (p : I_Page) (d : ByteArray) : I_Page × Int × Bool :=
  if vP p then (if vP ⟨withS p.slots (freeAt p.slots) ⟨true, d⟩⟩ then (⟨withS p.slots (freeAt p.slots) ⟨true, d⟩⟩, (freeAt p.slots : Int), true) else (⟨[]⟩, -1, false)) else (⟨[]⟩, -1, false)
/-- A live slot of a valid page. -/
def lvP (p : I_Page) (k : Int) : Prop := vP p ∧ 0 ≤ k ∧ ∃ s, p.slots[k.toNat]? = some s ∧ s.live = true
noncomputable instance (p : I_Page) (k : Int) : Decidable (lvP p k) := Classical.propDecidable _
noncomputable def setP (p : I_Page) (k : Int) (d : ByteArray) : I_Page × Bool :=
  if lvP p k then (if vP ⟨p.slots.set k.toNat ⟨true, d⟩⟩ then (⟨p.slots.set k.toNat ⟨true, d⟩⟩, true) else (⟨[]⟩, false)) else (⟨[]⟩, false)
noncomputable def clearP (p : I_Page) (k : Int) : I_Page × Bool := if lvP p k then (⟨trimP (p.slots.set k.toNat noSlot)⟩, true) else (⟨[]⟩, false)
theorem lvP_lt {p : I_Page} {k : Int} (h : lvP p k) : k.toNat < p.slots.length := by
  obtain ⟨_, _, s, h, _⟩ := h
  exact (List.getElem?_eq_some_iff.1 h).1
section
variable {N : Nat} (hN : 100000000 ≤ N)
include hN
omit hN in
theorem cloneP {p : I_Page} (h : PB p.slots) : m_I_Page_clone N p = some p := by
  unfold m_I_Page_clone m_slices_Clone_I_Slot
  have := h.len
  rw [appM_eq (by simp; omega)]; rfl
theorem idxI {p : I_Page} (h : PB p.slots) : m_slices_IndexFunc_I_Slot N p.slots (fun a0 => m_I_PutSlot_1 N a0) = some (if freeAt p.slots < p.slots.length then (freeAt p.slots : Int) else -1) := by
  refine ok.val ?_
  unfold m_slices_IndexFunc_I_Slot
  have hl := h.len
  have hf := freeAt_le p.slots
  refine ok.call (P := fun o => match o with | .inl _ => freeAt p.slots = p.slots.length | .inr v => freeAt p.slots < p.slots.length ∧ v = (freeAt p.slots : Int)) (ok.each p.slots.length (fun i s => s = (i : Int) ∧ i ≤ freeAt p.slots) _ ?_ ?_ N 0 0 (Nat.zero_le _) ⟨rfl, Nat.zero_le _⟩ (by omega)) ?_
  · rintro i _ hi ⟨rfl, hg⟩
    have hne : freeAt p.slots = i → p.slots[i].live = false := fun e => by subst e; exact freeAt_free hi
    have hlt : i < freeAt p.slots → p.slots[i].live = true := fun e => freeAt_live e hi
    unfold m_slices_IndexFunc_I_Slot_b1 m_I_PutSlot_1
    repeat' (first | (with_reducible refine ok.some ?_) | ((with_reducible refine ok.eq (ixI_nat hi) ?_)) | (with_reducible refine ok.ite (fun hc => ?_) (fun hc => ?_)) | (with_reducible refine ok.cond (fun hc => ?_) (fun hc => ?_)) | (with_reducible refine ok.chk (by omega) ?_) | (with_reducible refine ok.bs ?_) | (with_reducible refine ok.remM (by omega) (fun _ hq => ?_)) | (with_reducible refine ok.quoM (by omega) (fun _ hq => ?_)) | (with_reducible refine ok.ix (by omega) (by omega) (fun q hq he => ?_)))
    · rename_i hc
      have : i = freeAt p.slots := by
        rcases Nat.lt_or_ge i (freeAt p.slots) with h1 | h1
        · rw [hlt h1] at hc; cases hc
        · omega
      exact ⟨by omega, by omega⟩
    · rename_i hc
      refine ⟨by simp, ?_⟩
      rcases Nat.lt_or_ge i (freeAt p.slots) with h1 | h1
      · exact h1
      · rw [hne (by omega)] at hc; cases hc
    · omega
  · rintro _ ⟨rfl, hg⟩
    unfold m_slices_IndexFunc_I_Slot_b1
    repeat' (first | (with_reducible refine ok.some ?_) | (with_reducible refine ok.iff (by omega) ?_) | (with_reducible refine ok.ite (fun hc => ?_) (fun hc => ?_)) | (with_reducible refine ok.cond (fun hc => ?_) (fun hc => ?_)) | (with_reducible refine ok.chk (by omega) ?_) | (with_reducible refine ok.bs ?_) | (with_reducible refine ok.remM (by omega) (fun _ hq => ?_)) | (with_reducible refine ok.quoM (by omega) (fun _ hq => ?_)) | (with_reducible refine ok.ix (by omega) (by omega) (fun q hq he => ?_)))
    show _ = _
    omega
  · rintro (u | r) hq
    · show ok (m_slices_IndexFunc_I_Slot_k1 N _) _
      unfold m_slices_IndexFunc_I_Slot_k1
      refine ok.some ?_
      have hq : freeAt p.slots = p.slots.length := hq
      rw [if_neg (by omega)]
    · refine ok.some ?_
      rw [if_pos hq.1]; exact hq.2
omit hN in
theorem PB.with {l : List I_Slot} (h : PB l) (hl : l.length ≤ 3000000) (k : Nat) {x : I_Slot} (hx : x.data.size ≤ 1000000000) : PB (withS l k x) := by
  unfold withS; split
  · exact h.set _ hx
  · exact h.snoc hl hx
theorem putI {p : I_Page} {d : ByteArray} (h : PB p.slots) (hd : d.size ≤ 1000000000) : m_I_PutSlot N p d = some (putP p d) := by
  unfold m_I_PutSlot putP
  rw [validPI hN h, cloneP h]
  by_cases hv : vP p
  case neg => simp [hv]
  have hv8 := hv.1
  simp only [Option.bind_some, decide_eq_true hv, cond_true, if_pos hv, idxI hN h]
  by_cases hf : freeAt p.slots < p.slots.length
  · have h1 : ¬ ((freeAt p.slots : Int) < 0) := by omega
    have hq : PB (p.slots.set (freeAt p.slots) ⟨true, d⟩) := h.set _ hd
    have h2 : withS p.slots (freeAt p.slots) ⟨true, d⟩ = p.slots.set (freeAt p.slots) ⟨true, d⟩ := if_pos hf
    simp only [if_pos hf, decide_eq_false h1, cond_false, ixI_nat hf, Option.bind_some, Int.toNat_natCast, h2]
    rw [validPI hN (p := ⟨p.slots.set (freeAt p.slots) ⟨true, d⟩⟩) hq]
    by_cases hw : vP ⟨p.slots.set (freeAt p.slots) ⟨true, d⟩⟩ <;> simp [hw]
  · have h1 : ((-1 : Int) < 0) := by omega
    have hfe : freeAt p.slots = p.slots.length := by have := freeAt_le p.slots; omega
    have h2 : withS p.slots (freeAt p.slots) ⟨true, d⟩ = p.slots ++ [⟨true, d⟩] := if_neg hf
    have hq : PB (p.slots ++ [⟨true, d⟩]) := h.snoc (by omega) hd
    have h3 : (p.slots ++ [(⟨false, ByteArray.empty⟩ : I_Slot)]).set p.slots.length ⟨true, d⟩ = p.slots ++ [⟨true, d⟩] := by
      rw [List.set_append_right _ _ (Nat.le_refl _)]; simp
    simp only [if_neg hf, decide_eq_true h1, cond_true, h2]
    rw [appM_eq (by simp; omega)]
    simp only [Option.bind_some, Int.toNat_natCast, h3]
    rw [ixI_nat (by simp)]
    simp only [Option.bind_some]
    rw [validPI hN (p := I_Page.mk (p.slots ++ [I_Slot.mk true d])) hq]
    by_cases hw : vP ⟨p.slots ++ [⟨true, d⟩]⟩ <;> simp [hw, hfe]
/-- The loops that strike free slots at the end. -/
theorem trimS1 {l : List I_Slot} (h : PB l) : loopM (β := List I_Slot) (fun s : List I_Slot => m_S_withSlot_b1 N s) N l = some (trimP l) := by
  have hl := h.len
  have key := loopM_fun (body := fun s : List I_Slot => m_S_withSlot_b1 N s) (fun s => ∃ n, n ≤ l.length ∧ s = l.take n ∧ trimN l n = trimN l l.length) (fun s => s.length) (fun _ => trimP l) ?_ N l ⟨l.length, Nat.le_refl _, by simp, rfl⟩ (by omega)
  · exact key
  rintro _ ⟨n, hn, rfl, ht⟩
  have hlen : (l.take n).length = n := by simp; omega
  unfold m_S_withSlot_b1
  rw [hlen]
  cases n with
  | zero => exact ⟨.inr [], by simp, by unfold trimP; rw [← ht]; rfl⟩
  | succ n =>
    have hlt : n < l.length := by omega
    have hx : ixI (l.take (n + 1)) (((n + 1 : Nat) : Int) - 1) = some l[n] := by
      rw [ixI_eq (n := n) (by omega) (by rw [hlen]; omega)]; simp
    rw [decide_eq_true (show (0 : Int) < ((n + 1 : Nat) : Int) by omega), cond_true, chk_eq (by omega)]
    simp only [Option.bind_some, hx]
    rw [trimN_succ l hlt] at ht
    cases hc : l[n].live with
    | true =>
      rw [if_pos hc] at ht
      refine ⟨.inr (l.take (n + 1)), by simp, ?_⟩
      unfold trimP; rw [← ht]
    | false =>
      rw [if_neg (by rw [hc]; simp)] at ht
      refine ⟨.inl (l.take n), ?_, ⟨n, by omega, rfl, ht⟩, by simp; omega, trivial⟩
      rw [subM_eq (by rw [hlen]; omega)]
      simp [List.take_take, show ((n : Int) + 1 - 1).toNat = n by omega]
theorem trimS2 {l : List I_Slot} (h : PB l) : loopM (β := List I_Slot) (fun s : List I_Slot => m_S_withSlot_b2 N s) N l = some (trimP l) := by
  have : (fun s : List I_Slot => m_S_withSlot_b2 N s) = fun s : List I_Slot => m_S_withSlot_b1 N s := rfl
  rw [this]; exact trimS1 hN h
omit hN in
theorem PB.trim {l : List I_Slot} (h : PB l) : PB (trimP l) := h.take _
theorem withS_eq {p : I_Page} {k : Nat} {s : I_Slot} (h : PB p.slots) (hl : p.slots.length ≤ 3000000) (hs : s.data.size ≤ 1000000000) (hk : k ≤ p.slots.length) : m_S_withSlot N p (k : Int) s = some ⟨trimP (withS p.slots k s)⟩ := by
  unfold m_S_withSlot
  have hq := h.with hl k hs
  rw [appM_eq (by simp; omega)]
  simp only [List.nil_append, Option.bind_some]
  by_cases hk' : k < p.slots.length
  · have h2 : withS p.slots k s = p.slots.set k s := if_pos hk'
    rw [h2] at hq
    rw [decide_eq_false (by omega), cond_false, ixI_nat hk']
    simp only [Option.bind_some, Int.toNat_natCast, trimS2 hN hq, h2]
    unfold m_S_withSlot_k2
    have := hq.trim.len
    rw [appM_eq (by simp; omega)]; rfl
  · have h2 : withS p.slots k s = p.slots ++ [s] := if_neg hk'
    rw [h2] at hq
    rw [decide_eq_true (by omega), cond_true, appM_eq (by simp; omega)]
    simp only [Option.bind_some, trimS1 hN hq, h2]
    unfold m_S_withSlot_k1
    have := hq.trim.len
    rw [appM_eq (by simp; omega)]; rfl
theorem putS {p : I_Page} {d : ByteArray} (h : PB p.slots) (hd : d.size ≤ 1000000000) : m_S_PutSlot N p d = some (putP p d) := by
  unfold m_S_PutSlot putP
  rw [validPS hN h]
  by_cases hv : vP p
  case neg => simp [hv]
  have hv8 := hv.1
  have hf := freeAt_le p.slots
  simp only [Option.bind_some, decide_eq_true hv, cond_true, if_pos hv]
  have hloop : loopM (β := Int) (fun s : Int => m_S_PutSlot_b1 N p s) N (0 : Int) = some (freeAt p.slots : Int) := by
    refine ok.val ?_
    refine ok.each p.slots.length (fun i s => s = (i : Int) ∧ i ≤ freeAt p.slots) _ ?_ ?_ N 0 0 (Nat.zero_le _) ⟨rfl, Nat.zero_le _⟩ (by omega)
    · rintro i _ hi ⟨rfl, hg⟩
      have hne : freeAt p.slots = i → p.slots[i].live = false := fun e => by subst e; exact freeAt_free hi
      have hlt : i < freeAt p.slots → p.slots[i].live = true := fun e => freeAt_live e hi
      unfold m_S_PutSlot_b1
      repeat' (first | (with_reducible refine ok.some ?_) | ((with_reducible refine ok.eq (ixI_nat hi) ?_)) | (with_reducible refine ok.ite (fun hc => ?_) (fun hc => ?_)) | (with_reducible refine ok.cond (fun hc => ?_) (fun hc => ?_)) | (with_reducible refine ok.chk (by omega) ?_) | (with_reducible refine ok.bs ?_) | (with_reducible refine ok.remM (by omega) (fun _ hq => ?_)) | (with_reducible refine ok.quoM (by omega) (fun _ hq => ?_)) | (with_reducible refine ok.ix (by omega) (by omega) (fun q hq he => ?_)))
      · refine ⟨by simp, ?_⟩
        rcases Nat.lt_or_ge i (freeAt p.slots) with h1 | h1
        · exact h1
        · rw [hne (by omega)] at hc; cases hc
      · show _ = _
        rcases Nat.lt_or_ge i (freeAt p.slots) with h1 | h1
        · rw [hlt h1] at hc; cases hc
        · omega
      · omega
    · rintro _ ⟨rfl, hg⟩
      unfold m_S_PutSlot_b1
      repeat' (first | (with_reducible refine ok.some ?_) | (with_reducible refine ok.iff (by omega) ?_) | (with_reducible refine ok.ite (fun hc => ?_) (fun hc => ?_)) | (with_reducible refine ok.cond (fun hc => ?_) (fun hc => ?_)) | (with_reducible refine ok.chk (by omega) ?_) | (with_reducible refine ok.bs ?_) | (with_reducible refine ok.remM (by omega) (fun _ hq => ?_)) | (with_reducible refine ok.quoM (by omega) (fun _ hq => ?_)) | (with_reducible refine ok.ix (by omega) (by omega) (fun q hq he => ?_)))
      show _ = _
      omega
  rw [hloop]
  show m_S_PutSlot_k1 N p d (freeAt p.slots : Int) = _
  unfold m_S_PutSlot_k1
  have hlw : lastL (withS p.slots (freeAt p.slots) ⟨true, d⟩) := lastL_with hv.2.2.1 rfl
  rw [withS_eq hN h (by omega) hd hf, trimP_last hlw]
  simp only [Option.bind_some]
  rw [validPS hN (p := ⟨withS p.slots (freeAt p.slots) ⟨true, d⟩⟩) (h.with (by omega) _ hd)]
  by_cases hw : vP ⟨withS p.slots (freeAt p.slots) ⟨true, d⟩⟩ <;> simp [hw]
omit hN in
theorem liveI {p : I_Page} {k : Int} (hv : vP p) : m_I_Page_live N p k = some (decide (lvP p k)) := by
  refine bool_eq ?_
  unfold m_I_Page_live
  repeat' (first | (with_reducible refine ok.some ?_) | (with_reducible refine ok.ite (fun hc => ?_) (fun hc => ?_)) | (with_reducible refine ok.cond (fun hc => ?_) (fun hc => ?_)) | (with_reducible refine ok.chk (by omega) ?_) | (with_reducible refine ok.bs ?_) | (with_reducible refine ok.remM (by omega) (fun _ hq => ?_)) | (with_reducible refine ok.quoM (by omega) (fun _ hq => ?_)) | (with_reducible refine ok.ix (by omega) (by omega) (fun q hq he => ?_)))
  · constructor
    · intro h; exact ⟨hv, by omega, p.slots[q], by rw [show k.toNat = q by omega]; exact List.getElem?_eq_getElem hq, h⟩
    · rintro ⟨_, _, s, hs, hl⟩
      have : k.toNat = q := by omega
      rw [this, List.getElem?_eq_getElem hq] at hs; cases hs; exact hl
  · refine ⟨fun h => (by cases h), fun h => ?_⟩
    have := lvP_lt h; omega
  · refine ⟨fun h => (by cases h), fun h => ?_⟩
    have := h.2.1; omega
theorem liveS {p : I_Page} {k : Int} (h : PB p.slots) : m_S_live N p k = some (decide (lvP p k)) := by
  refine bool_eq ?_
  unfold m_S_live
  have hl := h.len
  repeat' (first | (with_reducible refine ok.some ?_) | ((with_reducible refine ok.eq (validPS hN h) ?_)) | ((with_reducible refine ok.eq (inRange_eq N _ _ _) ?_)) | (with_reducible refine ok.ite (fun hc => ?_) (fun hc => ?_)) | (with_reducible refine ok.cond (fun hc => ?_) (fun hc => ?_)) | (with_reducible refine ok.chk (by omega) ?_) | (with_reducible refine ok.bs ?_) | (with_reducible refine ok.remM (by omega) (fun _ hq => ?_)) | (with_reducible refine ok.quoM (by omega) (fun _ hq => ?_)) | (with_reducible refine ok.ix (by omega) (by omega) (fun q hq he => ?_)))
  · have hv : vP p := by assumption
    constructor
    · intro h; exact ⟨hv, by omega, p.slots[q], by rw [show k.toNat = q by omega]; exact List.getElem?_eq_getElem hq, h⟩
    · rintro ⟨_, _, s, hs, hl⟩
      have : k.toNat = q := by omega
      rw [this, List.getElem?_eq_getElem hq] at hs; cases hs; exact hl
  · refine ⟨fun h => (by cases h), fun h => ?_⟩
    have := lvP_lt h; have := h.2.1; omega
  · exact ⟨fun h => (by cases h), fun h => (hc h.1).elim⟩
theorem setI {p : I_Page} {k : Int} {d : ByteArray} (h : PB p.slots) (hd : d.size ≤ 1000000000) : m_I_SetSlot N p k d = some (setP p k d) := by
  unfold m_I_SetSlot setP
  rw [validPI hN h, cloneP h]
  by_cases hv : vP p
  case neg =>
    have : ¬ lvP p k := fun h => hv h.1
    simp [hv, this]
  rw [liveI hv]
  by_cases hk : lvP p k
  case neg => simp [hv, hk]
  have hlt := lvP_lt hk
  obtain ⟨_, h0, s, hs, hl⟩ := hk
  have hk : lvP p k := ⟨hv, h0, s, hs, hl⟩
  have hse : p.slots[k.toNat] = s := by rw [List.getElem?_eq_getElem hlt] at hs; exact Option.some.inj hs
  simp only [Option.bind_some, decide_eq_true hv, decide_eq_true hk, cond_true, if_pos hk]
  rw [ixI_eq (n := k.toNat) (by omega) hlt]
  simp only [Option.bind_some, hse, hl]
  rw [validPI hN (p := ⟨p.slots.set k.toNat ⟨true, d⟩⟩) (h.set _ hd)]
  by_cases hw : vP ⟨p.slots.set k.toNat ⟨true, d⟩⟩ <;> simp [hw]
theorem setS {p : I_Page} {k : Int} {d : ByteArray} (h : PB p.slots) (hd : d.size ≤ 1000000000) : m_S_SetSlot N p k d = some (setP p k d) := by
  unfold m_S_SetSlot setP
  rw [liveS hN h]
  by_cases hk : lvP p k
  case neg => simp [hk]
  have hlt := lvP_lt hk
  have hv := hk.1
  have hv8 := hv.1
  have hw : withS p.slots k.toNat ⟨true, d⟩ = p.slots.set k.toNat ⟨true, d⟩ := if_pos hlt
  have := withS_eq hN (k := k.toNat) (s := ⟨true, d⟩) h (by omega) hd (by omega)
  rw [show ((k.toNat : Nat) : Int) = k from Int.toNat_of_nonneg hk.2.1, hw, trimP_last (lastL_set hv.2.2.1 rfl)] at this
  simp only [Option.bind_some, decide_eq_true hk, cond_true, if_pos hk, this]
  rw [validPS hN (p := ⟨p.slots.set k.toNat ⟨true, d⟩⟩) (h.set _ hd)]
  by_cases hw : vP ⟨p.slots.set k.toNat ⟨true, d⟩⟩ <;> simp [hw]
theorem clearI {p : I_Page} {k : Int} (h : PB p.slots) : m_I_ClearSlot N p k = some (clearP p k) := by
  unfold m_I_ClearSlot clearP
  rw [validPI hN h, cloneP h]
  by_cases hv : vP p
  case neg =>
    have : ¬ lvP p k := fun h => hv h.1
    simp [hv, this]
  rw [liveI hv]
  by_cases hk : lvP p k
  case neg => simp [hv, hk]
  have hlt := lvP_lt hk
  have h0 := hk.2.1
  simp only [Option.bind_some, decide_eq_true hv, decide_eq_true hk, cond_true, if_pos hk]
  rw [ixI_eq (n := k.toNat) (by omega) hlt]
  simp only [Option.bind_some]
  have hlen : (p.slots.set k.toNat noSlot).length = p.slots.length := by simp
  have hl := h.len
  generalize hg : p.slots.set k.toNat noSlot = l at hlen ⊢
  have hloop : loopM (β := Int) (fun s : Int => m_I_ClearSlot_b1 N k p s) N (p.slots.length : Int) = some (trimN l l.length : Int) := by
    refine loopM_fun (fun s => ∃ n : Nat, n ≤ l.length ∧ s = (n : Int) ∧ trimN l n = trimN l l.length) (fun s => s.toNat) (fun _ => (trimN l l.length : Int)) ?_ N _ ⟨l.length, Nat.le_refl _, by rw [hlen], rfl⟩ (by omega)
    rintro _ ⟨n, hn, rfl, ht⟩
    unfold m_I_ClearSlot_b1
    rw [hg]
    cases n with
    | zero => exact ⟨.inr 0, by simp, by rw [← ht]; rfl⟩
    | succ n =>
      have hlt : n < l.length := by omega
      have hx : ixI l (((n + 1 : Nat) : Int) - 1) = some l[n] := ixI_eq (n := n) (by omega) hlt
      rw [decide_eq_true (show (0 : Int) < ((n + 1 : Nat) : Int) by omega), cond_true, chk_eq (by omega)]
      simp only [Option.bind_some, hx]
      rw [trimN_succ l hlt] at ht
      cases hc : l[n].live with
      | true =>
        rw [if_pos hc] at ht
        exact ⟨.inr ((n + 1 : Nat) : Int), by simp, by rw [← ht]⟩
      | false =>
        rw [if_neg (by rw [hc]; simp)] at ht
        exact ⟨.inl (n : Int), by simp, ⟨n, by omega, rfl, ht⟩, by omega, trivial⟩
  rw [hloop]
  show m_I_ClearSlot_k1 N k p _ = _
  unfold m_I_ClearSlot_k1
  have hle := trimN_le l l.length
  rw [hg, subM_eq (by omega)]
  simp [trimP]
theorem clearS {p : I_Page} {k : Int} (h : PB p.slots) : m_S_ClearSlot N p k = some (clearP p k) := by
  unfold m_S_ClearSlot clearP
  rw [liveS hN h]
  by_cases hk : lvP p k
  case neg => simp [hk]
  have hlt := lvP_lt hk
  have hv8 := hk.1.1
  have hw : withS p.slots k.toNat noSlot = p.slots.set k.toNat noSlot := if_pos hlt
  have := withS_eq hN (k := k.toNat) (s := noSlot) h (by omega) noSlot_small (by omega)
  rw [show ((k.toNat : Nat) : Int) = k from Int.toNat_of_nonneg hk.2.1, hw] at this
  simp only [Option.bind_some, decide_eq_true hk, cond_true, if_pos hk, this]
end
end V
end Go.Proofs.Ytmnjnkcooofgjaa
namespace Go.Proofs.Ytmnjnkcooofgjaa
namespace V
set_option linter.unusedVariables false
set_option linter.unusedSimpArgs false
set_option maxRecDepth 100000
set_option maxHeartbeats 1000000
def toSlot (x : L_Slot) : I_Slot := ⟨x.live, x.data⟩
noncomputable def mkSlot (N : Nat) (x : I_Slot) (k : Int) : I_Slot := ⟨decide ((k) % 3 = 0), mT N (k + 1)⟩
theorem len_L_markSlotS (N : Nat) (a : List I_Slot) (k : Int) (r : Int × List I_Slot) (h : m_L_markSlotS N a k = some r) : r.2.length = a.length := by
  unfold m_L_markSlotS at h
  obtain ⟨o, h1, h2⟩ := bind_some h
  unfold m_L_markSlotS_k1 at h2
  cases h2
  refine al.loop (fun s => s.2.2.length = a.length) (fun b => b.2.length = a.length) ?_ N _ rfl _ h1
  rintro ⟨k, i, v⟩ hv
  show al (m_L_markSlotS_b1 N k i v) _
  unfold m_L_markSlotS_b1
  repeat' (first | exact al.some hv | (refine al.cond (fun _ => ?_) (fun _ => ?_)) | (refine al.bind (fun _ _ => ?_)) | (refine al.some ?_; simpa only [List.length_set] using hv))
section
variable {N : Nat} (hN : 100000000 ≤ N)
include hN
theorem toSlotS_eq {a : List L_Slot} (ha : a.length ≤ 4000000) : m_L_toSlotS N a = some (a.map toSlot) := by
  unfold m_L_toSlotS
  have hm : mkM 24 (⟨false, ByteArray.empty⟩ : I_Slot) (a.length : Int) = some (List.replicate a.length ⟨false, ByteArray.empty⟩) := by unfold mkM; rw [if_pos (by omega)]; simp
  rw [hm]
  show (loopM _ N _).bind _ = _
  rw [to_loop a toSlot (List.replicate a.length ⟨false, ByteArray.empty⟩) (by simp) (by omega)]
  · rfl
  · intro i hi v hv
    unfold m_L_toSlotS_b1 m_L_toSlot
    rw [decide_eq_true (by show (i : Int) < _; omega), cond_true, ixI_nat hi, ixI_nat (show i < v.length by omega), chk_eq (by show _ ≤ (i : Int) + 1 ∧ _; omega)]
    rfl
  · intro v
    unfold m_L_toSlotS_b1
    rw [decide_eq_false (by show ¬ (a.length : Int) < _; omega)]; rfl
omit hN in
theorem eqSlot_self (a : I_Slot) : m_L_eqSlot N a a = some true := by
  unfold m_L_eqSlot
  simp
theorem eqSlotS_self {a : List I_Slot} (ha : a.length ≤ 5000000) : m_L_eqSlotS N a a = some true := by
  unfold m_L_eqSlotS
  rw [decide_eq_true rfl, cond_true]
  have h := ok.up (body := fun s : Int => m_L_eqSlotS_b1 N a a s) a.length (fun _ => True) (fun o => o = .inl ()) (N := N) (by omega) ?_ ?_
  · obtain ⟨o, e, rfl⟩ := h; rw [e]; rfl
  · intro i hi _
    show ok (m_L_eqSlotS_b1 N a a i) _
    unfold m_L_eqSlotS_b1
    refine ok.ift (by omega) (ok.eq (ixI_nat hi) (ok.eq (ixI_nat hi) (ok.eq (eqSlot_self _) (ok.bt rfl (ok.chk (by omega) (ok.some ⟨rfl, trivial⟩))))))
  · intro _
    show ok (m_L_eqSlotS_b1 N a a _) _
    unfold m_L_eqSlotS_b1
    exact ok.iff (by omega) (ok.some rfl)
theorem markSlotS_eq {a : List I_Slot} (ha : a.length ≤ 5000000) {k0 : Int} (h0 : 1 ≤ k0 ∧ k0 ≤ 10000000) : m_L_markSlotS N a k0 = some (k0 + ((2 * a.length : Nat) : Int), mkL (mkSlot N) (fun _ => 2) a k0) := by
  unfold m_L_markSlotS
  have hc : ∀ xs : List I_Slot, cL (fun _ => 2) xs = 2 * xs.length := cL_const _ (fun _ => rfl)
  rw [mark_loop (mkSlot N) (fun _ => 2) a k0 (by omega)]
  · rw [hc]; rfl
  · intro i hi v hv hx
    obtain ⟨hi', hx⟩ := List.getElem?_eq_some_iff.1 hx
    have hb : cL (fun _ => 2) (a.take i) = 2 * i := by rw [hc, List.length_take]; omega
    simp only [hb]
    have hx' : ixI v (i : Int) = some a[i] := by rw [ixI_nat hi', hx]
    show m_L_markSlotS_b1 N (k0 + ((2 * i : Nat) : Int)) i v = _
    refine ok.val ?_
    unfold m_L_markSlotS_b1
    repeat' (first | (with_reducible refine ok.some ?_) | (with_reducible refine ok.ift (by omega) ?_) | (with_reducible refine ok.eq hx' ?_) | (with_reducible refine ok.eq (mT_eq hN (by omega) (by omega)) ?_) | (with_reducible refine ok.ite (fun hc => ?_) (fun hc => ?_)) | (with_reducible refine ok.cond (fun hc => ?_) (fun hc => ?_)) | (with_reducible refine ok.chk (by omega) ?_) | (with_reducible refine ok.bs ?_) | (with_reducible refine ok.remM (by omega) (fun _ hq => ?_)) | (with_reducible refine ok.quoM (by omega) (fun _ hq => ?_)) | (with_reducible refine ok.ix (by omega) (by omega) (fun q hq he => ?_)))
    obtain ⟨rfl, _⟩ := hq
    simp only [List.set_set, mkSlot, Int.toNat_natCast, Int.add_assoc]
    rfl
  · intro k v hv
    unfold m_L_markSlotS_b1
    rw [decide_eq_false (by show ¬ (a.length : Int) < (v.length : Int); omega)]; rfl
theorem heldSlotS_eq {a : List I_Slot} (ha : a.length ≤ 5000000) {k0 : Int} (h0 : 1 ≤ k0 ∧ k0 ≤ 10000000) : m_L_heldSlotS N (mkL (mkSlot N) (fun _ => 2) a k0) k0 = some (k0 + ((2 * a.length : Nat) : Int)) := by
  unfold m_L_heldSlotS
  have hc : ∀ xs : List I_Slot, cL (fun _ => 2) xs = 2 * xs.length := cL_const _ (fun _ => rfl)
  rw [held_loop (mkSlot N) (fun _ => 2) a k0 (by omega)]
  · rw [hc]; rfl
  · intro i hi hx
    obtain ⟨hi', hx⟩ := List.getElem?_eq_some_iff.1 hx
    have hb : cL (fun _ => 2) (a.take i) = 2 * i := by rw [hc, List.length_take]; omega
    rw [hb] at hx
    simp only [hb]
    have hx' : ixI (mkL (mkSlot N) (fun _ => 2) a k0) (i : Int) = some (mkSlot N a[i] (k0 + ((2 * i : Nat) : Int))) := by rw [ixI_nat hi', hx]
    have hl := mkL_len (mkSlot N) (fun _ => 2) a k0
    show m_L_heldSlotS_b1 N (mkL (mkSlot N) (fun _ => 2) a k0) (k0 + ((2 * i : Nat) : Int)) i = _
    refine ok.val ?_
    unfold m_L_heldSlotS_b1
    simp only [mkSlot] at hx'
    repeat' (first | (with_reducible refine ok.some ?_) | (with_reducible refine ok.ift rfl ?_) | (with_reducible refine ok.ift (by omega) ?_) | (with_reducible refine ok.eq hx' ?_) | (with_reducible refine ok.bt (by rw [hq.1]; exact beq_self_eq_true _) ?_) | (with_reducible refine ok.eq (mT_eq hN (by omega) (by omega)) ?_) | (with_reducible refine ok.bt (beq_self_eq_true _) ?_) | (with_reducible refine ok.ite (fun hc => ?_) (fun hc => ?_)) | (with_reducible refine ok.cond (fun hc => ?_) (fun hc => ?_)) | (with_reducible refine ok.chk (by omega) ?_) | (with_reducible refine ok.bs ?_) | (with_reducible refine ok.remM (by omega) (fun _ hq => ?_)) | (with_reducible refine ok.quoM (by omega) (fun _ hq => ?_)) | (with_reducible refine ok.ix (by omega) (by omega) (fun q hq he => ?_)))
    simp only [Int.add_assoc]; rfl
  · intro k
    unfold m_L_heldSlotS_b1
    have hl := mkL_len (mkSlot N) (fun _ => 2) a k0
    rw [decide_eq_false (by show ¬ (a.length : Int) < _; omega)]; rfl
end
def toPg (x : L_Page) : I_Page := ⟨x.slots.map toSlot⟩
section
variable {N : Nat} (hN : 100000000 ≤ N)
include hN
theorem toPage_eq {a : L_Page} (ha : a.slots.length ≤ 4000000) : m_L_toPage N a = some (toPg a) := by
  unfold m_L_toPage; rw [toSlotS_eq hN ha]; rfl
theorem eqPage_self {a : I_Page} (ha : a.slots.length ≤ 5000000) : m_L_eqPage N a a = some true := by
  unfold m_L_eqPage; rw [eqSlotS_self hN ha]; rfl
end
end V
end Go.Proofs.Ytmnjnkcooofgjaa
namespace Go.Proofs.Ytmnjnkcooofgjaa
namespace V
open Enc (enc)
set_option linter.unusedVariables false
set_option linter.unusedSimpArgs false
set_option maxHeartbeats 4000000
set_option maxRecDepth 100000
open Go.RowKit
attribute [local irreducible] thA inA FinA eL
structure L_Heap where
  pages : List L_Page
deriving DecidableEq
instance : Enc L_Heap := ⟨fun x => [.sl x.pages.length (eL x.pages)], 1, fun _ => rfl⟩
structure L_Rid where
  page : Int
  slot : Int
deriving DecidableEq
instance : Enc L_Rid := ⟨fun x => [.v (.int .i64 x.page), .v (.int .i64 x.slot)], 2, fun _ => rfl⟩
def m_L_szPageS_k1 (N : Nat) (left14 : Int) : Option (Int) :=
  some left14
def m_L_szPageS_b1 (N : Nat) (p_a : (List L_Page)) (left4 : Int) (i5 : Int) : Option ((Int × Int) ⊕ (Int ⊕ Int)) :=
  cond (decide (i5 < (p_a.length : Int)))
    ((ixI p_a i5).bind fun x21 =>
    (m_L_szPage N x21 left4).bind fun r23 =>
    cond (decide (r23 < (0 : Int)))
      (some (.inr (.inr (-1 : Int))))
      ((chk (i5 + (1 : Int))).bind fun n26 =>
      some (.inl (r23, n26))))
    (some (.inr (.inl left4)))
def m_L_szPageS (N : Nat) (p_a : (List L_Page)) (p_left : Int) : Option (Int) :=
  (chk (p_left - (p_a.length : Int))).bind fun n1 =>
  cond (decide (n1 < (0 : Int)))
    (some (-1 : Int))
    ((loopM (β := Int ⊕ Int) (fun s : Int × Int => m_L_szPageS_b1 N p_a s.1 s.2) N (n1, (0 : Int))).bind fun o => match o with
    | .inl e =>
      m_L_szPageS_k1 N e
    | .inr v =>
      some v)
theorem w_L_szPageS (N : Nat) (p_a : (List L_Page)) (p_left : Int) (r : Int) (hh0 : m_L_szPageS N p_a p_left = some r) : FnX Try.prog 19 [] [sL p_a, iA p_left] (RE (iA r) []) := by
  unfold m_L_szPageS at hh0; refine FnX.mk Try.func19 rfl rfl ?_; intro s hs; refine PC.seq ?_; refine PC.region ?_; refine PL.op rfl (Rd.asnT rfl) ?_; refine PL.nil ?_; refine thA_n ?_; refine PC.seq ?_; obtain ⟨n1, h_2, hh0⟩ := bind_some hh0; refine PC.region ?_; (iterate 2 refine PL.op rfl (Rd.moveT rfl) ?_); refine PL.op rfl (Rd.lenT rfl) ?_; refine PL.op rfl (Rd.subM rfl rfl h_2) ?_; refine PL.op rfl (Rd.asnT rfl) ?_; refine PL.nil ?_; refine thA_n ?_; (iterate 2 refine PC.seq ?_); refine PC.region ?_; refine PL.op rfl (Rd.moveT rfl) ?_; refine PL.op rfl (Rd.lss rfl rfl) ?_; refine PL.nil ?_; refine thA_n ?_; rcases cond_some hh0 with ⟨h_3, hh0⟩ | ⟨h_3, hh0⟩
  · refine PC.cond_true rfl h_3 ?_; refine PC.seq ?_; refine PC.region ?_; refine PL.op rfl (Rd.asnT rfl) ?_; refine PL.nil ?_; refine thA_n ?_; refine PC.ret ?_; refine thA_r ?_; obtain rfl := some_in hh0; exact FinA.mk (r := iA (-1 : Int)) (bl := []) [] (.inl rfl) rfl (rl := [.tmp 4]) (.tmp .nil) rfl rfl rfl (.t _) trivial ⟨rfl, rfl⟩
  refine PC.cond_false rfl h_3 ?_; refine PC.skip ?_; refine thA_n ?_; (iterate 2 refine PC.seq ?_); refine PC.region ?_; refine PL.op rfl (Rd.asnT rfl) ?_; refine PL.nil ?_; refine thA_n ?_; obtain ⟨o15, h_16, hh0⟩ := bind_some hh0; refine PC.cutE hs (fun x : Int => [(1, iA x)]) (fun x => []) (fun x => m_L_szPageS_k1 N x = some r) ?_ ?_
  · refine PC.block ?_; refine PC.loop hs (fun x : Nat × (Int × Int) => [(0, sL p_a), (1, iA x.2.1), (5, iA x.2.2)]) (fun x => []) (fun x => loopM (β := Int ⊕ Int) (fun s : Int × Int => m_L_szPageS_b1 N p_a s.1 s.2) x.1 x.2 = some o15) (fun x => x.1) (N, (n1, (0 : Int))) [] ⟨rfl, rfl, trivial, ⟨.t _, .t _, .t _, trivial⟩⟩ h_16 ?_
    rintro ⟨f17_, left4, i5⟩ h_19
    obtain ⟨f17, y18, rfl, hh1, kk1⟩ := loopM_some h_19
    replace hh1 : m_L_szPageS_b1 N p_a left4 i5 = some y18 := hh1
    unfold m_L_szPageS_b1 at hh1; (iterate 2 refine PC.seq ?_); refine PC.region ?_; (iterate 2 refine PL.op rfl (Rd.moveT rfl) ?_); refine PL.op rfl (Rd.lenT rfl) ?_; refine PL.op rfl (Rd.lss rfl rfl) ?_; refine PL.nil ?_; refine thA_n ?_; rcases cond_some hh1 with ⟨h_20, hh1⟩ | ⟨h_20, hh1⟩; rotate_left
    · refine PC.cond_false rfl h_20 ?_; refine PC.exit ?_; (iterate 2 refine thA_e ?_); refine inA_eq rfl ?_; refine thA_n ?_; obtain rfl := some_in hh1; obtain rfl : (.inl left4 : Int ⊕ Int) = o15 := kk1; exact ⟨left4, hh0, [], ⟨rfl, rfl, trivial, ⟨.t _, trivial⟩⟩⟩
    refine PC.cond_true rfl h_20 ?_; refine PC.skip ?_; refine thA_n ?_; refine PC.seq ?_; refine PC.block ?_; refine PC.seq ?_; obtain ⟨x21, h_22, hh1⟩ := bind_some hh1; obtain ⟨r23, h_24, hh1⟩ := bind_some hh1; refine PC.region ?_; (iterate 2 refine PL.op rfl (Rd.moveT rfl) ?_); refine PL.op rfl (Rd.ixM rfl rfl h_22) ?_; refine PL.op rfl (Rd.elMR rfl h_22 rfl rfl) ?_; refine PL.op rfl (Rd.moveT rfl) ?_; refine PL.callM false [] (w_L_szPage N x21 left4 r23 h_24) rfl Try.call36 rfl ⟨.aggL ⟨.t _, trivial⟩, .t _, trivial⟩ rfl trivial (fun h => by cases h) ?_; refine PL.op rfl (Rd.asnT rfl) ?_; refine PL.nil ?_; refine thA_n ?_; refine PC.seq ?_; refine PC.region ?_; refine PL.op rfl (Rd.moveT rfl) ?_; refine PL.op rfl (Rd.lss rfl rfl) ?_; refine PL.nil ?_; refine thA_n ?_; rcases cond_some hh1 with ⟨h_25, hh1⟩ | ⟨h_25, hh1⟩; rotate_left
    · refine PC.cond_false rfl h_25 ?_; refine PC.skip ?_; refine inA_n ?_; refine thA_n ?_; obtain ⟨n26, h_27, hh1⟩ := bind_some hh1; refine PC.region ?_; refine PL.op rfl (Rd.moveT rfl) ?_; refine PL.op rfl (Rd.addM rfl rfl h_27) ?_; refine PL.op rfl (Rd.asnT rfl) ?_; refine PL.nil ?_; obtain rfl := some_in hh1; refine thA_n ?_; exact ⟨(f17, (r23, n26)), Nat.lt_succ_self _, kk1, [], ⟨rfl, rfl, trivial, ⟨.t _, .t _, .t _, trivial⟩⟩⟩
    refine PC.cond_true rfl h_25 ?_; refine PC.seq ?_; refine PC.region ?_; refine PL.op rfl (Rd.asnT rfl) ?_; refine PL.nil ?_; refine thA_n ?_; refine PC.ret ?_; refine inA_r ?_; (iterate 2 refine thA_r ?_); refine inA_r ?_; refine thA_r ?_; obtain rfl := some_in hh1; obtain rfl : (.inr (-1 : Int) : Int ⊕ Int) = o15 := kk1; refine thA_r ?_; obtain rfl := some_in hh0; exact FinA.mk (r := iA (-1 : Int)) (bl := []) [] (.inl rfl) rfl (rl := [.tmp 4]) (.tmp .nil) rfl rfl rfl (.t _) trivial ⟨rfl, rfl⟩
  clear hh0
  rintro left14 hh0
  replace hh0 : m_L_szPageS_k1 N left14 = some r := hh0
  unfold m_L_szPageS_k1 at hh0; refine thA_n ?_; refine PC.seq ?_; refine PC.region ?_; refine PL.op rfl (Rd.moveT rfl) ?_; refine PL.op rfl (Rd.asnT rfl) ?_; refine PL.nil ?_; refine thA_n ?_; refine PC.ret ?_; obtain rfl := some_in hh0; exact FinA.mk (r := iA left14) (bl := []) [] (.inl rfl) rfl (rl := [.tmp 4]) (.tmp .nil) rfl rfl rfl (.t _) trivial ⟨rfl, rfl⟩
def m_L_szHeap (N : Nat) (p_a : L_Heap) (p_left : Int) : Option (Int) :=
  (m_L_szPageS N p_a.pages p_left).bind fun r1 =>
  cond (decide (r1 < (0 : Int)))
    (some (-1 : Int))
    (some r1)
theorem w_L_szHeap (N : Nat) (p_a : L_Heap) (p_left : Int) (r : Int) (hh0 : m_L_szHeap N p_a p_left = some r) : FnX Try.prog 6 [] [.agg [sL p_a.pages], iA p_left] (RE (iA r) []) := by
  unfold m_L_szHeap at hh0; refine FnX.mk Try.func6 rfl rfl ?_; intro s hs; refine PC.seq ?_; refine PC.region ?_; refine PL.ef rfl (Ef.box rfl rfl rfl) ?_; refine PL.nm (.op 0 0) [some ⟨.mx [sL p_a.pages], 24, 0⟩] rfl rfl ?_; refine PL.op rfl (Rd.asnT rfl) ?_; refine PL.nil ?_; refine thA_n ?_; refine PC.seq ?_; obtain ⟨r1, h_2, hh0⟩ := bind_some hh0; refine PC.region ?_; refine PL.op rfl (Rd.fieldO rfl rfl) ?_; refine PL.op rfl (Rd.loadO rfl rfl rfl) ?_; refine PL.op rfl (Rd.moveT rfl) ?_; refine PL.callM false [] (w_L_szPageS N p_a.pages p_left r1 h_2) rfl Try.call19 rfl ⟨.t _, .t _, trivial⟩ rfl trivial (fun h => by cases h) ?_; refine PL.op rfl (Rd.asnT rfl) ?_; refine PL.nil ?_; refine thA_n ?_; (iterate 2 refine PC.seq ?_); refine PC.region ?_; refine PL.op rfl (Rd.moveT rfl) ?_; refine PL.op rfl (Rd.lss rfl rfl) ?_; refine PL.nil ?_; refine thA_n ?_; rcases cond_some hh0 with ⟨h_3, hh0⟩ | ⟨h_3, hh0⟩
  · refine PC.cond_true rfl h_3 ?_; refine PC.seq ?_; refine PC.region ?_; refine PL.op rfl (Rd.asnT rfl) ?_; refine PL.nil ?_; refine thA_n ?_; refine PC.ret ?_; refine thA_r ?_; obtain rfl := some_in hh0; exact FinA.mk (r := iA (-1 : Int)) (bl := []) [] (.inl rfl) rfl (rl := [.tmp 4]) (.tmp .nil) rfl rfl rfl (.t _) trivial ⟨rfl, rfl⟩
  refine PC.cond_false rfl h_3 ?_; refine PC.skip ?_; refine thA_n ?_; refine PC.seq ?_; refine PC.region ?_; refine PL.op rfl (Rd.moveT rfl) ?_; refine PL.op rfl (Rd.asnT rfl) ?_; refine PL.nil ?_; refine thA_n ?_; refine PC.ret ?_; obtain rfl := some_in hh0; exact FinA.mk (r := iA r1) (bl := []) [] (.inl rfl) rfl (rl := [.tmp 4]) (.tmp .nil) rfl rfl rfl (.t _) trivial ⟨rfl, rfl⟩
def m_L_toPageS_k1 (N : Nat) (v14 : (List I_Page)) : Option ((List I_Page)) :=
  some v14
def m_L_toPageS_b1 (N : Nat) (p_a : (List L_Page)) (i3 : Int) (v4 : (List I_Page)) : Option ((Int × (List I_Page)) ⊕ (List I_Page)) :=
  cond (decide (i3 < (p_a.length : Int)))
    ((ixI p_a i3).bind fun x21 =>
    (m_L_toPage N x21).bind fun r23 =>
    (ixI v4 i3).bind fun x25 =>
    (chk (i3 + (1 : Int))).bind fun n27 =>
    some (.inl (n27, (v4.set i3.toNat r23))))
    (some (.inr v4))
def m_L_toPageS (N : Nat) (p_a : (List L_Page)) : Option ((List I_Page)) :=
  (mkM 24 (I_Page.mk ([] : List I_Slot)) (p_a.length : Int)).bind fun xs1 =>
  (loopM (β := (List I_Page)) (fun s : Int × (List I_Page) => m_L_toPageS_b1 N p_a s.1 s.2) N ((0 : Int), xs1)).bind fun e =>
  m_L_toPageS_k1 N e
theorem w_L_toPageS (N : Nat) (p_a : (List L_Page)) (r : (List I_Page)) (hh0 : m_L_toPageS N p_a = some r) : FnX Try.prog 24 [] [sL p_a] (RE (.os 0 0 r.length) [⟨.mx (dL 1 0 r), 50, 1⟩, ⟨.fm (fam r), 70, 2⟩]) := by
  unfold m_L_toPageS at hh0; refine FnX.mk Try.func24 rfl rfl ?_; intro s hs; refine PC.seq ?_; refine PC.region ?_; refine PL.op rfl (Rd.asnT rfl) ?_; refine PL.nil ?_; refine thA_n ?_; refine PC.seq ?_; obtain ⟨xs1, h_2, hh0⟩ := bind_some hh0; refine PC.region ?_; refine PL.op rfl (Rd.moveT rfl) ?_; refine PL.op rfl (Rd.lenT rfl) ?_; refine PL.ef rfl (Ef.makeD (I_Page.mk ([] : List I_Slot)) rfl rfl h_2 rfl rfl rfl rfl rfl) ?_; refine PL.fam0 (b := 0) (ity := 70) (ik := 2) (es := xs1) rfl (mkM_rows h_2 rfl) ?_; refine PL.nm (.os 0 0 xs1.length) [some ⟨.mx (dL 1 0 xs1), 50, 1⟩, some ⟨.fm (fam xs1), 70, 2⟩] rfl rfl ?_; refine PL.op rfl (Rd.asnO rfl) ?_; refine PL.nil ?_; refine thA_n ?_; (iterate 2 refine PC.seq ?_); refine PC.region ?_; refine PL.op rfl (Rd.asnT rfl) ?_; refine PL.nil ?_; refine thA_n ?_; obtain ⟨o15, h_16, hh0⟩ := bind_some hh0; refine PC.cutE hs (fun x : (List I_Page) => [(3, .os 0 0 x.length)]) (fun x => [⟨.mx (dL 1 0 x), 50, 1⟩, ⟨.fm (fam x), 70, 2⟩]) (fun x => m_L_toPageS_k1 N x = some r) ?_ ?_
  · refine PC.block ?_; refine PC.loop hs (fun x : Nat × (Int × (List I_Page)) => [(0, sL p_a), (3, .os 0 0 x.2.2.length), (4, iA x.2.1)]) (fun x => [⟨.mx (dL 1 0 x.2.2), 50, 1⟩, ⟨.fm (fam x.2.2), 70, 2⟩]) (fun x => loopM (β := (List I_Page)) (fun s : Int × (List I_Page) => m_L_toPageS_b1 N p_a s.1 s.2) x.1 x.2 = some o15) (fun x => x.1) (N, ((0 : Int), xs1)) [some 0, some 1] ⟨rfl, rfl, ⟨⟨_, rfl, rfl, rfl, .mx (sb_dL rfl 0 _)⟩, ⟨_, rfl, rfl, rfl, .fm _⟩, trivial⟩, ⟨.t _, .os rfl, .t _, trivial⟩⟩ h_16 ?_
    rintro ⟨f17_, i3, v4⟩ h_19
    obtain ⟨f17, y18, rfl, hh1, kk1⟩ := loopM_some h_19
    replace hh1 : m_L_toPageS_b1 N p_a i3 v4 = some y18 := hh1
    unfold m_L_toPageS_b1 at hh1; (iterate 2 refine PC.seq ?_); refine PC.region ?_; (iterate 2 refine PL.op rfl (Rd.moveT rfl) ?_); refine PL.op rfl (Rd.lenT rfl) ?_; refine PL.op rfl (Rd.lss rfl rfl) ?_; refine PL.nil ?_; refine thA_n ?_; rcases cond_some hh1 with ⟨h_20, hh1⟩ | ⟨h_20, hh1⟩; rotate_left
    · refine PC.cond_false rfl h_20 ?_; refine PC.exit ?_; (iterate 2 refine thA_e ?_); refine inA_eq rfl ?_; refine thA_n ?_; obtain rfl := some_in hh1; obtain rfl : (v4 : (List I_Page)) = o15 := kk1; exact ⟨v4, hh0, [some 0, some 1], ⟨rfl, rfl, ⟨⟨_, rfl, rfl, rfl, .mx (sb_dL rfl 0 _)⟩, ⟨_, rfl, rfl, rfl, .fm _⟩, trivial⟩, ⟨.os rfl, trivial⟩⟩⟩
    refine PC.cond_true rfl h_20 ?_; refine PC.skip ?_; refine thA_n ?_; refine PC.seq ?_; refine PC.block ?_; obtain ⟨x21, h_22, hh1⟩ := bind_some hh1; obtain ⟨r23, h_24, hh1⟩ := bind_some hh1; obtain ⟨x25, h_26, hh1⟩ := bind_some hh1; refine PC.region ?_; refine PL.op rfl (Rd.moveO rfl) ?_; (iterate 3 refine PL.op rfl (Rd.moveT rfl) ?_); refine PL.op rfl (Rd.ixM rfl rfl h_22) ?_; refine PL.op rfl (Rd.elMR rfl h_22 rfl rfl) ?_; refine PL.callM false [] (w_L_toPage N x21 r23 h_24) rfl Try.call40 rfl ⟨.aggL ⟨.t _, trivial⟩, trivial⟩ rfl trivial (fun h => by cases h) ?_; refine PL.nm (.agg [.os 2 0 r23.slots.length]) [some ⟨.mx (dL 1 0 v4), 50, 1⟩, some ⟨.fm (fam v4), 70, 2⟩, some ⟨.tr (eL r23.slots), 70, 2⟩] rfl rfl ?_; refine PL.op rfl (Rd.ixOM rfl rfl rfl (ixI_lt h_26)) ?_; refine PL.adSM hs r23 rfl rfl rfl rfl rfl rfl rfl rfl h_26 rfl rfl rfl rfl rfl rfl rfl ?_; refine PL.nO [some ⟨.mx (dL 3 0 (v4.set i3.toNat r23)), 50, 1⟩, none, none, some ⟨.fm (fam (v4.set i3.toNat r23)), 70, 2⟩] rfl ?_; refine PL.nil ?_; refine inA_n ?_; refine thA_n ?_; obtain ⟨n27, h_28, hh1⟩ := bind_some hh1; refine PC.region ?_; refine PL.op rfl (Rd.moveT rfl) ?_; refine PL.op rfl (Rd.addM rfl rfl h_28) ?_; refine PL.op rfl (Rd.asnT rfl) ?_; refine PL.nil ?_; obtain rfl := some_in hh1; refine thA_n ?_; exact ⟨(f17, (n27, (v4.set i3.toNat r23))), Nat.lt_succ_self _, kk1, [some 0, some 3], ⟨rfl, rfl, ⟨⟨_, rfl, rfl, rfl, .mx (sb_dL rfl 0 _)⟩, ⟨_, rfl, rfl, rfl, .fm _⟩, trivial⟩, ⟨.t _, .osE rfl (by simp only [List.length_set]), .t _, trivial⟩⟩⟩
  clear hh0
  rintro v14 hh0
  replace hh0 : m_L_toPageS_k1 N v14 = some r := hh0
  unfold m_L_toPageS_k1 at hh0; refine thA_n ?_; refine PC.seq ?_; refine PC.region ?_; refine PL.op rfl (Rd.moveO rfl) ?_; refine PL.op rfl (Rd.asnO rfl) ?_; refine PL.nil ?_; refine thA_n ?_; refine PC.ret ?_; obtain rfl := some_in hh0; exact FinA.mk (r := .os 0 0 v14.length) (bl := [⟨.mx (dL 1 0 v14), 50, 1⟩, ⟨.fm (fam v14), 70, 2⟩]) [some 0, some 1] (.inl rfl) rfl (rl := [.tmp 2]) (.tmp .nil) rfl rfl rfl (.os rfl) ⟨⟨_, rfl, rfl, rfl, .mx (sb_dL rfl 0 _)⟩, ⟨_, rfl, rfl, rfl, .fm _⟩, trivial⟩ ⟨rfl, rfl⟩
def m_L_toHeap (N : Nat) (p_a : L_Heap) : Option (I_Heap) :=
  (m_L_toPageS N p_a.pages).bind fun r1 =>
  some (I_Heap.mk r1)
theorem w_L_toHeap (N : Nat) (p_a : L_Heap) (r : I_Heap) (hh0 : m_L_toHeap N p_a = some r) : FnX Try.prog 8 [] [.agg [sL p_a.pages]] (RE (.agg [.os 0 0 r.pages.length]) [⟨.mx (dL 1 0 r.pages), 50, 1⟩, ⟨.fm (fam r.pages), 70, 2⟩]) := by
  unfold m_L_toHeap at hh0; refine FnX.mk Try.func8 rfl rfl ?_; intro s hs; refine PC.seq ?_; refine PC.region ?_; refine PL.ef rfl (Ef.box rfl rfl rfl) ?_; refine PL.nm (.op 0 0) [some ⟨.mx [sL p_a.pages], 24, 0⟩] rfl rfl ?_; refine PL.ef rfl (Ef.alloc rfl rfl) ?_; refine PL.nm (.op 1 0) [some ⟨.mx [sL p_a.pages], 24, 0⟩, some ⟨.mx [.t (.v (.slice none 0 0))], 30, 0⟩] rfl rfl ?_; refine PL.nil ?_; refine thA_n ?_; refine PC.seq ?_; refine PC.region ?_; refine PL.ef rfl (Ef.alloc rfl rfl) ?_; refine PL.nm (.op 2 0) [some ⟨.mx [sL p_a.pages], 24, 0⟩, some ⟨.mx [.t (.v (.slice none 0 0))], 30, 0⟩, some ⟨.mx [.t (.v (.slice none 0 0))], 30, 0⟩] rfl rfl ?_; refine PL.nil ?_; refine thA_n ?_; refine PC.seq ?_; obtain ⟨r1, h_2, hh0⟩ := bind_some hh0; refine PC.region ?_; refine PL.op rfl (Rd.fieldO rfl rfl) ?_; refine PL.op rfl (Rd.loadO rfl rfl rfl) ?_; refine PL.callM false [] (w_L_toPageS N p_a.pages r1 h_2) rfl Try.call24 rfl ⟨.t _, trivial⟩ rfl trivial (fun h => by cases h) ?_; refine PL.nm (.os 3 0 r1.length) [some ⟨.mx [sL p_a.pages], 24, 0⟩, some ⟨.mx [.t (.v (.slice none 0 0))], 30, 0⟩, some ⟨.mx [.t (.v (.slice none 0 0))], 30, 0⟩, some ⟨.mx (dL 4 0 r1), 50, 1⟩, some ⟨.fm (fam r1), 70, 2⟩] rfl (by (conv => rhs; rw [show dL 4 0 r1 = AV.renL (thet [] 3) (dL 1 0 r1) from (dL_ren (thet [] 3) 1 0 r1).symm]); rfl) ?_; refine PL.op rfl (Rd.fieldO rfl rfl) ?_; refine PL.store rfl rfl rfl rfl rfl rfl rfl ?_; refine PL.nO [some ⟨.mx [sL p_a.pages], 24, 0⟩, some ⟨.mx [.t (.v (.slice none 0 0))], 30, 0⟩, some ⟨.mx [.os 3 0 r1.length], 30, 0⟩, some ⟨.mx (dL 4 0 r1), 50, 1⟩, some ⟨.fm (fam r1), 70, 2⟩] rfl ?_; refine PL.nil ?_; refine thA_n ?_; refine PC.seq ?_; refine PC.region ?_; refine PL.op rfl (Rd.loadBox rfl rfl rfl) ?_; refine PL.store rfl rfl rfl rfl rfl rfl rfl ?_; refine PL.nO [some ⟨.mx [sL p_a.pages], 24, 0⟩, some ⟨.mx [.os 3 0 r1.length], 30, 0⟩, some ⟨.mx [.os 3 0 r1.length], 30, 0⟩, some ⟨.mx (dL 4 0 r1), 50, 1⟩, some ⟨.fm (fam r1), 70, 2⟩] rfl ?_; refine PL.nil ?_; refine thA_n ?_; refine PC.ret ?_; obtain rfl := some_in hh0; exact FinA.mk (r := .agg [.os 0 0 r1.length]) (bl := [⟨.mx (dL 1 0 r1), 50, 1⟩, ⟨.fm (fam r1), 70, 2⟩]) [some 3, some 4] (.inl rfl) rfl (rl := [.cell 2 30]) (.cellN rfl rfl rfl rfl .nil) rfl rfl rfl (.aggL ⟨.os rfl, trivial⟩) ⟨⟨_, rfl, rfl, rfl, .mx (sb_dL rfl 0 _)⟩, ⟨_, rfl, rfl, rfl, .fm _⟩, trivial⟩ ⟨rfl, rfl⟩
def m_L_eqPageS_k1 (N : Nat) : Option (Bool) :=
  some true
def m_L_eqPageS_b1 (N : Nat) (p_a : (List I_Page)) (p_b : (List I_Page)) (i2 : Int) : Option (Int ⊕ (Unit ⊕ Bool)) :=
  cond (decide (i2 < (p_a.length : Int)))
    ((ixI p_a i2).bind fun x19 =>
    (ixI p_b i2).bind fun x21 =>
    (m_L_eqPage N x19 x21).bind fun r23 =>
    cond r23
      ((chk (i2 + (1 : Int))).bind fun n26 =>
      some (.inl n26))
      (some (.inr (.inr false))))
    (some (.inr (.inl ())))
def m_L_eqPageS (N : Nat) (p_a : (List I_Page)) (p_b : (List I_Page)) : Option (Bool) :=
  cond (decide ((p_a.length : Int) = (p_b.length : Int)))
    ((loopM (β := Unit ⊕ Bool) (fun s : Int => m_L_eqPageS_b1 N p_a p_b s) N (0 : Int)).bind fun o => match o with
    | .inl e =>
      m_L_eqPageS_k1 N 
    | .inr v =>
      some v)
    (some false)
theorem w_L_eqPageS (N : Nat) (p_a : (List I_Page)) (p_b : (List I_Page)) (r : Bool) (hh0 : m_L_eqPageS N p_a p_b = some r) : FnX Try.prog 29 [] [sL p_a, sL p_b] (RE (bA r) []) := by
  unfold m_L_eqPageS at hh0; refine FnX.mk Try.func29 rfl rfl ?_; intro s hs; refine PC.seq ?_; refine PC.region ?_; refine PL.op rfl (Rd.asnT rfl) ?_; refine PL.nil ?_; refine thA_n ?_; (iterate 2 refine PC.seq ?_); refine PC.region ?_; refine PL.op rfl (Rd.moveT rfl) ?_; refine PL.op rfl (Rd.lenT rfl) ?_; refine PL.op rfl (Rd.moveT rfl) ?_; refine PL.op rfl (Rd.lenT rfl) ?_; refine PL.op rfl (Rd.neq rfl rfl) ?_; refine PL.nil ?_; refine thA_n ?_; rcases cond_some hh0 with ⟨h_1, hh0⟩ | ⟨h_1, hh0⟩; rotate_left
  · refine PC.cond_true rfl (not_f h_1) ?_; refine PC.seq ?_; refine PC.region ?_; refine PL.op rfl (Rd.asnT rfl) ?_; refine PL.nil ?_; refine thA_n ?_; refine PC.ret ?_; refine thA_r ?_; obtain rfl := some_in hh0; exact FinA.mk (r := bA false) (bl := []) [] (.inl rfl) rfl (rl := [.tmp 4]) (.tmp .nil) rfl rfl rfl (.t _) trivial ⟨rfl, rfl⟩
  refine PC.cond_false rfl (not_t h_1) ?_; refine PC.skip ?_; refine thA_n ?_; (iterate 2 refine PC.seq ?_); refine PC.region ?_; refine PL.op rfl (Rd.asnT rfl) ?_; refine PL.nil ?_; refine thA_n ?_; obtain ⟨o13, h_14, hh0⟩ := bind_some hh0; refine PC.cutE hs (fun x : Unit => []) (fun x => []) (fun x => m_L_eqPageS_k1 N  = some r) ?_ ?_
  · refine PC.block ?_; refine PC.loop hs (fun x : Nat × (Int) => [(0, sL p_a), (1, sL p_b), (5, iA x.2)]) (fun x => []) (fun x => loopM (β := Unit ⊕ Bool) (fun s : Int => m_L_eqPageS_b1 N p_a p_b s) x.1 x.2 = some o13) (fun x => x.1) (N, (0 : Int)) [] ⟨rfl, rfl, trivial, ⟨.t _, .t _, .t _, trivial⟩⟩ h_14 ?_
    rintro ⟨f15_, i2⟩ h_17
    obtain ⟨f15, y16, rfl, hh1, kk1⟩ := loopM_some h_17
    replace hh1 : m_L_eqPageS_b1 N p_a p_b i2 = some y16 := hh1
    unfold m_L_eqPageS_b1 at hh1; (iterate 2 refine PC.seq ?_); refine PC.region ?_; (iterate 2 refine PL.op rfl (Rd.moveT rfl) ?_); refine PL.op rfl (Rd.lenT rfl) ?_; refine PL.op rfl (Rd.lss rfl rfl) ?_; refine PL.nil ?_; refine thA_n ?_; rcases cond_some hh1 with ⟨h_18, hh1⟩ | ⟨h_18, hh1⟩; rotate_left
    · refine PC.cond_false rfl h_18 ?_; refine PC.exit ?_; (iterate 2 refine thA_e ?_); refine inA_eq rfl ?_; refine thA_n ?_; obtain rfl := some_in hh1; obtain rfl : (.inl () : Unit ⊕ Bool) = o13 := kk1; exact ⟨(), hh0, [], ⟨rfl, rfl, trivial, trivial⟩⟩
    refine PC.cond_true rfl h_18 ?_; refine PC.skip ?_; refine thA_n ?_; refine PC.seq ?_; refine PC.block ?_; refine PC.seq ?_; obtain ⟨x19, h_20, hh1⟩ := bind_some hh1; obtain ⟨x21, h_22, hh1⟩ := bind_some hh1; obtain ⟨r23, h_24, hh1⟩ := bind_some hh1; refine PC.any (id := 6) 10 (.seg [0, 1, 2, 3, 4, 5, 6, 7, 8, 9] .done) [] rfl (by kernel_rfl) rfl ?_; refine PT.seg ?_; (iterate 2 refine PR.op rfl (Rd.moveT rfl) ?_); refine PR.op rfl (Rd.ixM rfl rfl h_20) ?_; refine PR.op rfl (Rd.elMR rfl h_20 rfl rfl) ?_; (iterate 2 refine PR.op rfl (Rd.moveT rfl) ?_); refine PR.op rfl (Rd.ixM rfl rfl h_22) ?_; refine PR.op rfl (Rd.elMR rfl h_22 rfl rfl) ?_; refine PR.callM false [] (w_L_eqPage N x19 x21 r23 h_24) rfl Try.call44 rfl ⟨.aggL ⟨.t _, trivial⟩, .aggL ⟨.t _, trivial⟩, trivial⟩ rfl trivial (fun h => by cases h) rfl ?_; refine PR.op rfl (Rd.unnot rfl) ?_; refine PR.nil ?_; refine PT.done ?_; refine PL.nil ?_; refine thA_n ?_; rcases cond_some hh1 with ⟨h_25, hh1⟩ | ⟨h_25, hh1⟩
    · refine PC.cond_false rfl (not_t h_25) ?_; refine PC.skip ?_; refine inA_n ?_; refine thA_n ?_; obtain ⟨n26, h_27, hh1⟩ := bind_some hh1; refine PC.region ?_; refine PL.op rfl (Rd.moveT rfl) ?_; refine PL.op rfl (Rd.addM rfl rfl h_27) ?_; refine PL.op rfl (Rd.asnT rfl) ?_; refine PL.nil ?_; obtain rfl := some_in hh1; refine thA_n ?_; exact ⟨(f15, n26), Nat.lt_succ_self _, kk1, [], ⟨rfl, rfl, trivial, ⟨.t _, .t _, .t _, trivial⟩⟩⟩
    refine PC.cond_true rfl (not_f h_25) ?_; refine PC.seq ?_; refine PC.region ?_; refine PL.op rfl (Rd.asnT rfl) ?_; refine PL.nil ?_; refine thA_n ?_; refine PC.ret ?_; refine inA_r ?_; (iterate 2 refine thA_r ?_); refine inA_r ?_; refine thA_r ?_; obtain rfl := some_in hh1; obtain rfl : (.inr false : Unit ⊕ Bool) = o13 := kk1; refine thA_r ?_; obtain rfl := some_in hh0; exact FinA.mk (r := bA false) (bl := []) [] (.inl rfl) rfl (rl := [.tmp 4]) (.tmp .nil) rfl rfl rfl (.t _) trivial ⟨rfl, rfl⟩
  clear hh0
  rintro ⟨⟩ hh0
  replace hh0 : m_L_eqPageS_k1 N  = some r := hh0
  unfold m_L_eqPageS_k1 at hh0; refine thA_n ?_; refine PC.seq ?_; refine PC.region ?_; refine PL.op rfl (Rd.asnT rfl) ?_; refine PL.nil ?_; refine thA_n ?_; refine PC.ret ?_; obtain rfl := some_in hh0; exact FinA.mk (r := bA true) (bl := []) [] (.inl rfl) rfl (rl := [.tmp 4]) (.tmp .nil) rfl rfl rfl (.t _) trivial ⟨rfl, rfl⟩
def m_L_eqHeap (N : Nat) (p_a : I_Heap) (p_b : I_Heap) : Option (Bool) :=
  (m_L_eqPageS N p_a.pages p_b.pages).bind fun r1 =>
  cond r1
    (some true)
    (some false)
theorem w_L_eqHeap (N : Nat) (p_a : I_Heap) (p_b : I_Heap) (r : Bool) (hh0 : m_L_eqHeap N p_a p_b = some r) : FnX Try.prog 11 [] [.agg [sL p_a.pages], .agg [sL p_b.pages]] (RE (bA r) []) := by
  unfold m_L_eqHeap at hh0; refine FnX.mk Try.func11 rfl rfl ?_; intro s hs; refine PC.seq ?_; refine PC.region ?_; refine PL.ef rfl (Ef.box rfl rfl rfl) ?_; refine PL.nm (.op 0 0) [some ⟨.mx [sL p_a.pages], 30, 0⟩] rfl rfl ?_; refine PL.ef rfl (Ef.box rfl rfl rfl) ?_; refine PL.nm (.op 1 0) [some ⟨.mx [sL p_a.pages], 30, 0⟩, some ⟨.mx [sL p_b.pages], 30, 0⟩] rfl rfl ?_; refine PL.op rfl (Rd.asnT rfl) ?_; refine PL.nil ?_; refine thA_n ?_; (iterate 2 refine PC.seq ?_); obtain ⟨r1, h_2, hh0⟩ := bind_some hh0; refine PC.region ?_; refine PL.op rfl (Rd.fieldO rfl rfl) ?_; refine PL.op rfl (Rd.loadO rfl rfl rfl) ?_; refine PL.op rfl (Rd.fieldO rfl rfl) ?_; refine PL.op rfl (Rd.loadO rfl rfl rfl) ?_; refine PL.callM false [] (w_L_eqPageS N p_a.pages p_b.pages r1 h_2) rfl Try.call29 rfl ⟨.t _, .t _, trivial⟩ rfl trivial (fun h => by cases h) ?_; refine PL.op rfl (Rd.unnot rfl) ?_; refine PL.nil ?_; refine thA_n ?_; rcases cond_some hh0 with ⟨h_3, hh0⟩ | ⟨h_3, hh0⟩; rotate_left
  · refine PC.cond_true rfl (not_f h_3) ?_; refine PC.seq ?_; refine PC.region ?_; refine PL.op rfl (Rd.asnT rfl) ?_; refine PL.nil ?_; refine thA_n ?_; refine PC.ret ?_; refine thA_r ?_; obtain rfl := some_in hh0; exact FinA.mk (r := bA false) (bl := []) [] (.inl rfl) rfl (rl := [.tmp 4]) (.tmp .nil) rfl rfl rfl (.t _) trivial ⟨rfl, rfl⟩
  refine PC.cond_false rfl (not_t h_3) ?_; refine PC.skip ?_; refine thA_n ?_; refine PC.seq ?_; refine PC.region ?_; refine PL.op rfl (Rd.asnT rfl) ?_; refine PL.nil ?_; refine thA_n ?_; refine PC.ret ?_; obtain rfl := some_in hh0; exact FinA.mk (r := bA true) (bl := []) [] (.inl rfl) rfl (rl := [.tmp 4]) (.tmp .nil) rfl rfl rfl (.t _) trivial ⟨rfl, rfl⟩
def m_L_markPageS_k1 (N : Nat) (k11 : Int) (v12 : (List I_Page)) : Option (Int × (List I_Page)) :=
  some (k11, v12)
def m_L_markPageS_b1 (N : Nat) (k1 : Int) (i2 : Int) (v3 : (List I_Page)) : Option ((Int × Int × (List I_Page)) ⊕ (Int × (List I_Page))) :=
  cond (decide (i2 < (v3.length : Int)))
    ((ixI v3 i2).bind fun x19 =>
    (m_L_markSlotS N x19.slots k1).bind fun r21 =>
    (chk (i2 + (1 : Int))).bind fun n23 =>
    some (.inl (r21.1, n23, (v3.set i2.toNat (I_Page.mk r21.2)))))
    (some (.inr (k1, v3)))
def m_L_markPageS (N : Nat) (p_a : (List I_Page)) (p_k : Int) : Option (Int × (List I_Page)) :=
  (loopM (β := Int × (List I_Page)) (fun s : Int × Int × (List I_Page) => m_L_markPageS_b1 N s.1 s.2.1 s.2.2) N (p_k, (0 : Int), p_a)).bind fun e =>
  m_L_markPageS_k1 N e.1 e.2
theorem w_L_markPageS (N : Nat) (p_a : (List I_Page)) (p_k : Int) (r : Int × (List I_Page)) (hh0 : m_L_markPageS N p_a p_k = some r) : FnX Try.prog 30 [⟨.mx (dL 1 0 p_a), 50, 1⟩, ⟨.fm (fam p_a), 70, 2⟩] [.os 0 0 p_a.length, iA p_k] (RE (iA r.1) [⟨.mx (dL 1 0 r.2), 50, 1⟩, ⟨.fm (fam r.2), 70, 2⟩]) := by
  unfold m_L_markPageS at hh0; refine FnX.mk Try.func30 rfl rfl ?_; intro s hs; refine PC.seq ?_; refine PC.region ?_; refine PL.op rfl (Rd.asnT rfl) ?_; refine PL.nil ?_; refine thA_n ?_; (iterate 2 refine PC.seq ?_); refine PC.region ?_; refine PL.op rfl (Rd.asnT rfl) ?_; refine PL.nil ?_; refine thA_n ?_; obtain ⟨o13, h_14, hh0⟩ := bind_some hh0; refine PC.cutE hs (fun x : Int × (List I_Page) => [(1, iA x.1)]) (fun x => [⟨.mx (dL 1 0 x.2), 50, 1⟩, ⟨.fm (fam x.2), 70, 2⟩]) (fun x => m_L_markPageS_k1 N x.1 x.2 = some r) ?_ ?_
  · refine PC.block ?_; refine PC.loop hs (fun x : Nat × (Int × Int × (List I_Page)) => [(0, .os 0 0 x.2.2.2.length), (1, iA x.2.1), (5, iA x.2.2.1)]) (fun x => [⟨.mx (dL 1 0 x.2.2.2), 50, 1⟩, ⟨.fm (fam x.2.2.2), 70, 2⟩]) (fun x => loopM (β := Int × (List I_Page)) (fun s : Int × Int × (List I_Page) => m_L_markPageS_b1 N s.1 s.2.1 s.2.2) x.1 x.2 = some o13) (fun x => x.1) (N, (p_k, (0 : Int), p_a)) [some 0, some 1] ⟨rfl, rfl, ⟨⟨_, rfl, rfl, rfl, .mx (sb_dL rfl 0 _)⟩, ⟨_, rfl, rfl, rfl, .fm _⟩, trivial⟩, ⟨.os rfl, .t _, .t _, trivial⟩⟩ h_14 ?_
    rintro ⟨f15_, k1, i2, v3⟩ h_17
    obtain ⟨f15, y16, rfl, hh1, kk1⟩ := loopM_some h_17
    replace hh1 : m_L_markPageS_b1 N k1 i2 v3 = some y16 := hh1
    unfold m_L_markPageS_b1 at hh1; (iterate 2 refine PC.seq ?_); refine PC.region ?_; refine PL.op rfl (Rd.moveT rfl) ?_; refine PL.op rfl (Rd.moveO rfl) ?_; refine PL.op rfl (Rd.lenO rfl rfl) ?_; refine PL.op rfl (Rd.lss rfl rfl) ?_; refine PL.nil ?_; refine thA_n ?_; rcases cond_some hh1 with ⟨h_18, hh1⟩ | ⟨h_18, hh1⟩; rotate_left
    · refine PC.cond_false rfl h_18 ?_; refine PC.exit ?_; (iterate 2 refine thA_e ?_); refine inA_eq rfl ?_; refine thA_n ?_; obtain rfl := some_in hh1; obtain rfl : ((k1, v3) : Int × (List I_Page)) = o13 := kk1; exact ⟨(k1, v3), hh0, [some 0, some 1], ⟨rfl, rfl, ⟨⟨_, rfl, rfl, rfl, .mx (sb_dL rfl 0 _)⟩, ⟨_, rfl, rfl, rfl, .fm _⟩, trivial⟩, ⟨.t _, trivial⟩⟩⟩
    refine PC.cond_true rfl h_18 ?_; refine PC.skip ?_; refine thA_n ?_; refine PC.seq ?_; refine PC.block ?_; obtain ⟨x19, h_20, hh1⟩ := bind_some hh1; obtain ⟨r21, h_22, hh1⟩ := bind_some hh1; refine PC.region ?_; refine PL.op rfl (Rd.moveO rfl) ?_; refine PL.op rfl (Rd.moveT rfl) ?_; refine PL.op rfl (Rd.ixOM rfl rfl rfl (ixI_lt h_20)) ?_; refine PL.op rfl (Rd.fieldO rfl rfl) ?_; refine PL.op rfl (Rd.dpFM (q := 0) rfl rfl rfl h_20 rfl rfl) ?_; refine PL.op rfl (Rd.moveT rfl) ?_; refine PL.callOIM (b := 0) (I_Page.mk r21.2) h_20 (w_L_markSlotS N x19.slots k1 r21 h_22) rfl Try.call45 rfl rfl rfl rfl rfl rfl rfl rfl (len_L_markSlotS N _ _  _ h_22) ?_; refine PL.nm (iA r21.1) [some ⟨.mx (dL 1 0 (v3.set i2.toNat (I_Page.mk r21.2))), 50, 1⟩, some ⟨.fm (fam (v3.set i2.toNat (I_Page.mk r21.2))), 70, 2⟩] rfl rfl ?_; refine PL.op rfl (Rd.asnT rfl) ?_; refine PL.nil ?_; refine inA_n ?_; refine thA_n ?_; obtain ⟨n23, h_24, hh1⟩ := bind_some hh1; refine PC.region ?_; refine PL.op rfl (Rd.moveT rfl) ?_; refine PL.op rfl (Rd.addM rfl rfl h_24) ?_; refine PL.op rfl (Rd.asnT rfl) ?_; refine PL.nil ?_; obtain rfl := some_in hh1; refine thA_n ?_; exact ⟨(f15, (r21.1, n23, (v3.set i2.toNat (I_Page.mk r21.2)))), Nat.lt_succ_self _, kk1, [some 0, some 1], ⟨rfl, rfl, ⟨⟨_, rfl, rfl, rfl, .mx (sb_dL rfl 0 _)⟩, ⟨_, rfl, rfl, rfl, .fm _⟩, trivial⟩, ⟨.osE rfl (by simp only [List.length_set]), .t _, .t _, trivial⟩⟩⟩
  clear hh0
  rintro ⟨k11, v12⟩ hh0
  replace hh0 : m_L_markPageS_k1 N k11 v12 = some r := hh0
  unfold m_L_markPageS_k1 at hh0; refine thA_n ?_; refine PC.seq ?_; refine PC.region ?_; refine PL.op rfl (Rd.moveT rfl) ?_; refine PL.op rfl (Rd.asnT rfl) ?_; refine PL.nil ?_; refine thA_n ?_; refine PC.ret ?_; obtain rfl := some_in hh0; exact FinA.mk (r := iA ((k11, v12).1)) (bl := [⟨.mx (dL 1 0 ((k11, v12).2)), 50, 1⟩, ⟨.fm (fam ((k11, v12).2)), 70, 2⟩]) [some 0, some 1] (.inl rfl) rfl (rl := [.tmp 4]) (.tmp .nil) rfl rfl rfl (.t _) ⟨⟨_, rfl, rfl, rfl, .mx (sb_dL rfl 0 _)⟩, ⟨_, rfl, rfl, rfl, .fm _⟩, trivial⟩ ⟨rfl, rfl⟩
def m_L_markHeap (N : Nat) (p_a : I_Heap) (p_k : Int) : Option (Int × (List I_Page)) :=
  (m_L_markPageS N p_a.pages p_k).bind fun r1 =>
  some (r1.1, r1.2)
theorem w_L_markHeap (N : Nat) (p_a : I_Heap) (p_k : Int) (r : Int × (List I_Page)) (hh0 : m_L_markHeap N p_a p_k = some r) : FnX Try.prog 12 [⟨.mx (dL 1 0 p_a.pages), 50, 1⟩, ⟨.fm (fam p_a.pages), 70, 2⟩] [.agg [.os 0 0 p_a.pages.length], iA p_k] (RE (iA r.1) [⟨.mx (dL 1 0 r.2), 50, 1⟩, ⟨.fm (fam r.2), 70, 2⟩]) := by
  unfold m_L_markHeap at hh0; refine FnX.mk Try.func12 rfl rfl ?_; intro s hs; refine PC.seq ?_; refine PC.region ?_; refine PL.ef rfl (Ef.box rfl rfl rfl) ?_; refine PL.nm (.op 2 0) [some ⟨.mx (dL 1 0 p_a.pages), 50, 1⟩, some ⟨.fm (fam p_a.pages), 70, 2⟩, some ⟨.mx [.os 0 0 p_a.pages.length], 30, 0⟩] rfl rfl ?_; refine PL.op rfl (Rd.asnT rfl) ?_; refine PL.nil ?_; refine thA_n ?_; refine PC.seq ?_; obtain ⟨r1, h_2, hh0⟩ := bind_some hh0; refine PC.region ?_; refine PL.op rfl (Rd.fieldO rfl rfl) ?_; refine PL.op rfl (Rd.loadO rfl rfl rfl) ?_; refine PL.op rfl (Rd.moveT rfl) ?_; refine PL.callM false [0, 1] (w_L_markPageS N p_a.pages p_k r1 h_2) rfl Try.call30 rfl ⟨.os rfl, .t _, trivial⟩ rfl ⟨⟨_, rfl, rfl, rfl, .mx (sb_dL rfl 0 _)⟩, ⟨_, rfl, rfl, rfl, .fm _⟩, trivial⟩ (fun h => by cases h) ?_; refine PL.nm (iA r1.1) [some ⟨.mx (dL 1 0 r1.2), 50, 1⟩, some ⟨.fm (fam r1.2), 70, 2⟩, some ⟨.mx [.os 0 0 p_a.pages.length], 30, 0⟩] rfl (by (conv => rhs; rw [show dL 1 0 r1.2 = AV.renL (thet [0, 1] 3) (dL 1 0 r1.2) from (dL_ren (thet [0, 1] 3) 1 0 r1.2).symm]); rfl) ?_; refine PL.op rfl (Rd.asnT rfl) ?_; refine PL.nil ?_; refine thA_n ?_; refine PC.seq ?_; refine PC.region ?_; refine PL.op rfl (Rd.moveT rfl) ?_; refine PL.op rfl (Rd.asnT rfl) ?_; refine PL.nil ?_; refine thA_n ?_; refine PC.ret ?_; obtain rfl := some_in hh0; exact FinA.mk (r := iA ((r1.1, r1.2).1)) (bl := [⟨.mx (dL 1 0 ((r1.1, r1.2).2)), 50, 1⟩, ⟨.fm (fam ((r1.1, r1.2).2)), 70, 2⟩]) [some 0, some 1] (.inl rfl) rfl (rl := [.tmp 4]) (.tmp .nil) rfl rfl rfl (.t _) ⟨⟨_, rfl, rfl, rfl, .mx (sb_dL rfl 0 _)⟩, ⟨_, rfl, rfl, rfl, .fm _⟩, trivial⟩ ⟨rfl, rfl⟩
def m_L_heldPageS_k1 (N : Nat) (k11 : Int) : Option (Int) :=
  some k11
def m_L_heldPageS_b1 (N : Nat) (p_a : (List I_Page)) (k1 : Int) (i2 : Int) : Option ((Int × Int) ⊕ (Int ⊕ Int)) :=
  cond (decide (i2 < (p_a.length : Int)))
    ((ixI p_a i2).bind fun x18 =>
    (m_L_heldSlotS N x18.slots k1).bind fun r20 =>
    cond (decide (r20 < (0 : Int)))
      (some (.inr (.inr (-1 : Int))))
      ((chk (i2 + (1 : Int))).bind fun n23 =>
      some (.inl (r20, n23))))
    (some (.inr (.inl k1)))
def m_L_heldPageS (N : Nat) (p_a : (List I_Page)) (p_k : Int) : Option (Int) :=
  (loopM (β := Int ⊕ Int) (fun s : Int × Int => m_L_heldPageS_b1 N p_a s.1 s.2) N (p_k, (0 : Int))).bind fun o => match o with
  | .inl e =>
    m_L_heldPageS_k1 N e
  | .inr v =>
    some v
theorem w_L_heldPageS (N : Nat) (p_a : (List I_Page)) (p_k : Int) (r : Int) (hh0 : m_L_heldPageS N p_a p_k = some r) : FnX Try.prog 31 [] [sL p_a, iA p_k] (RE (iA r) []) := by
  unfold m_L_heldPageS at hh0; refine FnX.mk Try.func31 rfl rfl ?_; intro s hs; refine PC.seq ?_; refine PC.region ?_; refine PL.op rfl (Rd.asnT rfl) ?_; refine PL.nil ?_; refine thA_n ?_; (iterate 2 refine PC.seq ?_); refine PC.region ?_; refine PL.op rfl (Rd.asnT rfl) ?_; refine PL.nil ?_; refine thA_n ?_; obtain ⟨o12, h_13, hh0⟩ := bind_some hh0; refine PC.cutE hs (fun x : Int => [(1, iA x)]) (fun x => []) (fun x => m_L_heldPageS_k1 N x = some r) ?_ ?_
  · refine PC.block ?_; refine PC.loop hs (fun x : Nat × (Int × Int) => [(0, sL p_a), (1, iA x.2.1), (5, iA x.2.2)]) (fun x => []) (fun x => loopM (β := Int ⊕ Int) (fun s : Int × Int => m_L_heldPageS_b1 N p_a s.1 s.2) x.1 x.2 = some o12) (fun x => x.1) (N, (p_k, (0 : Int))) [] ⟨rfl, rfl, trivial, ⟨.t _, .t _, .t _, trivial⟩⟩ h_13 ?_
    rintro ⟨f14_, k1, i2⟩ h_16
    obtain ⟨f14, y15, rfl, hh1, kk1⟩ := loopM_some h_16
    replace hh1 : m_L_heldPageS_b1 N p_a k1 i2 = some y15 := hh1
    unfold m_L_heldPageS_b1 at hh1; (iterate 2 refine PC.seq ?_); refine PC.region ?_; (iterate 2 refine PL.op rfl (Rd.moveT rfl) ?_); refine PL.op rfl (Rd.lenT rfl) ?_; refine PL.op rfl (Rd.lss rfl rfl) ?_; refine PL.nil ?_; refine thA_n ?_; rcases cond_some hh1 with ⟨h_17, hh1⟩ | ⟨h_17, hh1⟩; rotate_left
    · refine PC.cond_false rfl h_17 ?_; refine PC.exit ?_; (iterate 2 refine thA_e ?_); refine inA_eq rfl ?_; refine thA_n ?_; obtain rfl := some_in hh1; obtain rfl : (.inl k1 : Int ⊕ Int) = o12 := kk1; exact ⟨k1, hh0, [], ⟨rfl, rfl, trivial, ⟨.t _, trivial⟩⟩⟩
    refine PC.cond_true rfl h_17 ?_; refine PC.skip ?_; refine thA_n ?_; refine PC.seq ?_; refine PC.block ?_; refine PC.seq ?_; obtain ⟨x18, h_19, hh1⟩ := bind_some hh1; obtain ⟨r20, h_21, hh1⟩ := bind_some hh1; refine PC.region ?_; (iterate 2 refine PL.op rfl (Rd.moveT rfl) ?_); refine PL.op rfl (Rd.ixM rfl rfl h_19) ?_; refine PL.op rfl (Rd.fieldT rfl) ?_; refine PL.op rfl (Rd.elMF (f := 0) rfl h_19 rfl rfl) ?_; refine PL.op rfl (Rd.moveT rfl) ?_; refine PL.callM false [] (w_L_heldSlotS N x18.slots k1 r20 h_21) rfl Try.call46 rfl ⟨.t _, .t _, trivial⟩ rfl trivial (fun h => by cases h) ?_; refine PL.op rfl (Rd.asnT rfl) ?_; refine PL.nil ?_; refine thA_n ?_; refine PC.seq ?_; refine PC.region ?_; refine PL.op rfl (Rd.moveT rfl) ?_; refine PL.op rfl (Rd.lss rfl rfl) ?_; refine PL.nil ?_; refine thA_n ?_; rcases cond_some hh1 with ⟨h_22, hh1⟩ | ⟨h_22, hh1⟩; rotate_left
    · refine PC.cond_false rfl h_22 ?_; refine PC.skip ?_; refine inA_n ?_; refine thA_n ?_; obtain ⟨n23, h_24, hh1⟩ := bind_some hh1; refine PC.region ?_; refine PL.op rfl (Rd.moveT rfl) ?_; refine PL.op rfl (Rd.addM rfl rfl h_24) ?_; refine PL.op rfl (Rd.asnT rfl) ?_; refine PL.nil ?_; obtain rfl := some_in hh1; refine thA_n ?_; exact ⟨(f14, (r20, n23)), Nat.lt_succ_self _, kk1, [], ⟨rfl, rfl, trivial, ⟨.t _, .t _, .t _, trivial⟩⟩⟩
    refine PC.cond_true rfl h_22 ?_; refine PC.seq ?_; refine PC.region ?_; refine PL.op rfl (Rd.asnT rfl) ?_; refine PL.nil ?_; refine thA_n ?_; refine PC.ret ?_; refine inA_r ?_; (iterate 2 refine thA_r ?_); refine inA_r ?_; refine thA_r ?_; obtain rfl := some_in hh1; obtain rfl : (.inr (-1 : Int) : Int ⊕ Int) = o12 := kk1; refine thA_r ?_; obtain rfl := some_in hh0; exact FinA.mk (r := iA (-1 : Int)) (bl := []) [] (.inl rfl) rfl (rl := [.tmp 4]) (.tmp .nil) rfl rfl rfl (.t _) trivial ⟨rfl, rfl⟩
  clear hh0
  rintro k11 hh0
  replace hh0 : m_L_heldPageS_k1 N k11 = some r := hh0
  unfold m_L_heldPageS_k1 at hh0; refine thA_n ?_; refine PC.seq ?_; refine PC.region ?_; refine PL.op rfl (Rd.moveT rfl) ?_; refine PL.op rfl (Rd.asnT rfl) ?_; refine PL.nil ?_; refine thA_n ?_; refine PC.ret ?_; obtain rfl := some_in hh0; exact FinA.mk (r := iA k11) (bl := []) [] (.inl rfl) rfl (rl := [.tmp 4]) (.tmp .nil) rfl rfl rfl (.t _) trivial ⟨rfl, rfl⟩
def m_L_heldHeap (N : Nat) (p_a : I_Heap) (p_k : Int) : Option (Int) :=
  (m_L_heldPageS N p_a.pages p_k).bind fun r1 =>
  cond (decide (r1 < (0 : Int)))
    (some (-1 : Int))
    (some r1)
theorem w_L_heldHeap (N : Nat) (p_a : I_Heap) (p_k : Int) (r : Int) (hh0 : m_L_heldHeap N p_a p_k = some r) : FnX Try.prog 13 [] [.agg [sL p_a.pages], iA p_k] (RE (iA r) []) := by
  unfold m_L_heldHeap at hh0; refine FnX.mk Try.func13 rfl rfl ?_; intro s hs; refine PC.seq ?_; refine PC.region ?_; refine PL.ef rfl (Ef.box rfl rfl rfl) ?_; refine PL.nm (.op 0 0) [some ⟨.mx [sL p_a.pages], 30, 0⟩] rfl rfl ?_; refine PL.op rfl (Rd.asnT rfl) ?_; refine PL.nil ?_; refine thA_n ?_; refine PC.seq ?_; obtain ⟨r1, h_2, hh0⟩ := bind_some hh0; refine PC.region ?_; refine PL.op rfl (Rd.fieldO rfl rfl) ?_; refine PL.op rfl (Rd.loadO rfl rfl rfl) ?_; refine PL.op rfl (Rd.moveT rfl) ?_; refine PL.callM false [] (w_L_heldPageS N p_a.pages p_k r1 h_2) rfl Try.call31 rfl ⟨.t _, .t _, trivial⟩ rfl trivial (fun h => by cases h) ?_; refine PL.op rfl (Rd.asnT rfl) ?_; refine PL.nil ?_; refine thA_n ?_; (iterate 2 refine PC.seq ?_); refine PC.region ?_; refine PL.op rfl (Rd.moveT rfl) ?_; refine PL.op rfl (Rd.lss rfl rfl) ?_; refine PL.nil ?_; refine thA_n ?_; rcases cond_some hh0 with ⟨h_3, hh0⟩ | ⟨h_3, hh0⟩
  · refine PC.cond_true rfl h_3 ?_; refine PC.seq ?_; refine PC.region ?_; refine PL.op rfl (Rd.asnT rfl) ?_; refine PL.nil ?_; refine thA_n ?_; refine PC.ret ?_; refine thA_r ?_; obtain rfl := some_in hh0; exact FinA.mk (r := iA (-1 : Int)) (bl := []) [] (.inl rfl) rfl (rl := [.tmp 4]) (.tmp .nil) rfl rfl rfl (.t _) trivial ⟨rfl, rfl⟩
  refine PC.cond_false rfl h_3 ?_; refine PC.skip ?_; refine thA_n ?_; refine PC.seq ?_; refine PC.region ?_; refine PL.op rfl (Rd.moveT rfl) ?_; refine PL.op rfl (Rd.asnT rfl) ?_; refine PL.nil ?_; refine thA_n ?_; refine PC.ret ?_; obtain rfl := some_in hh0; exact FinA.mk (r := iA r1) (bl := []) [] (.inl rfl) rfl (rl := [.tmp 4]) (.tmp .nil) rfl rfl rfl (.t _) trivial ⟨rfl, rfl⟩
def m_L_toRid (N : Nat) (p_a : L_Rid) : Option (I_Rid) :=
  some (I_Rid.mk p_a.page p_a.slot)
theorem w_L_toRid (N : Nat) (p_a : L_Rid) (r : I_Rid) (hh0 : m_L_toRid N p_a = some r) : FnX Try.prog 9 [] [.agg [iA p_a.page, iA p_a.slot]] (RE (.agg [iA r.page, iA r.slot]) []) := by
  unfold m_L_toRid at hh0; refine FnX.mk Try.func9 rfl rfl ?_; intro s hs; refine PC.seq ?_; refine PC.region ?_; refine PL.ef rfl (Ef.box rfl rfl rfl) ?_; refine PL.nm (.op 0 0) [some ⟨.mx [iA p_a.page, iA p_a.slot], 26, 0⟩] rfl rfl ?_; refine PL.ef rfl (Ef.alloc rfl rfl) ?_; refine PL.nm (.op 1 0) [some ⟨.mx [iA p_a.page, iA p_a.slot], 26, 0⟩, some ⟨.mx [iA (0 : Int), iA (0 : Int)], 34, 0⟩] rfl rfl ?_; refine PL.nil ?_; refine thA_n ?_; refine PC.seq ?_; refine PC.region ?_; refine PL.ef rfl (Ef.alloc rfl rfl) ?_; refine PL.nm (.op 2 0) [some ⟨.mx [iA p_a.page, iA p_a.slot], 26, 0⟩, some ⟨.mx [iA (0 : Int), iA (0 : Int)], 34, 0⟩, some ⟨.mx [iA (0 : Int), iA (0 : Int)], 34, 0⟩] rfl rfl ?_; refine PL.nil ?_; refine thA_n ?_; refine PC.seq ?_; refine PC.region ?_; refine PL.op rfl (Rd.fieldO rfl rfl) ?_; refine PL.op rfl (Rd.loadO rfl rfl rfl) ?_; refine PL.op rfl (Rd.fieldO rfl rfl) ?_; refine PL.store rfl rfl rfl rfl rfl rfl rfl ?_; refine PL.nO [some ⟨.mx [iA p_a.page, iA p_a.slot], 26, 0⟩, some ⟨.mx [iA (0 : Int), iA (0 : Int)], 34, 0⟩, some ⟨.mx [iA p_a.page, iA (0 : Int)], 34, 0⟩] rfl ?_; refine PL.nil ?_; refine thA_n ?_; refine PC.seq ?_; refine PC.region ?_; refine PL.op rfl (Rd.fieldO rfl rfl) ?_; refine PL.op rfl (Rd.loadO rfl rfl rfl) ?_; refine PL.op rfl (Rd.fieldO rfl rfl) ?_; refine PL.store rfl rfl rfl rfl rfl rfl rfl ?_; refine PL.nO [some ⟨.mx [iA p_a.page, iA p_a.slot], 26, 0⟩, some ⟨.mx [iA (0 : Int), iA (0 : Int)], 34, 0⟩, some ⟨.mx [iA p_a.page, iA p_a.slot], 34, 0⟩] rfl ?_; refine PL.nil ?_; refine thA_n ?_; refine PC.seq ?_; refine PC.region ?_; refine PL.op rfl (Rd.loadBox rfl rfl rfl) ?_; refine PL.store rfl rfl rfl rfl rfl rfl rfl ?_; refine PL.nO [some ⟨.mx [iA p_a.page, iA p_a.slot], 26, 0⟩, some ⟨.mx [iA p_a.page, iA p_a.slot], 34, 0⟩, some ⟨.mx [iA p_a.page, iA p_a.slot], 34, 0⟩] rfl ?_; refine PL.nil ?_; refine thA_n ?_; refine PC.ret ?_; obtain rfl := some_in hh0; exact FinA.mk (r := .agg [iA p_a.page, iA p_a.slot]) (bl := []) [] (.inl rfl) rfl (rl := [.cell 2 34]) (.cellN rfl rfl rfl rfl .nil) rfl rfl rfl (.aggL ⟨.t _, .t _, trivial⟩) trivial ⟨rfl, rfl⟩
def m_L_eqRid (N : Nat) (p_a : I_Rid) (p_b : I_Rid) : Option (Bool) :=
  cond (decide (p_a.page = p_b.page))
    (cond (decide (p_a.slot = p_b.slot))
      (some true)
      (some false))
    (some false)
theorem w_L_eqRid (N : Nat) (p_a : I_Rid) (p_b : I_Rid) (r : Bool) (hh0 : m_L_eqRid N p_a p_b = some r) : FnX Try.prog 16 [] [.agg [iA p_a.page, iA p_a.slot], .agg [iA p_b.page, iA p_b.slot]] (RE (bA r) []) := by
  unfold m_L_eqRid at hh0; refine FnX.mk Try.func16 rfl rfl ?_; intro s hs; refine PC.seq ?_; refine PC.region ?_; refine PL.ef rfl (Ef.box rfl rfl rfl) ?_; refine PL.nm (.op 0 0) [some ⟨.mx [iA p_a.page, iA p_a.slot], 34, 0⟩] rfl rfl ?_; refine PL.ef rfl (Ef.box rfl rfl rfl) ?_; refine PL.nm (.op 1 0) [some ⟨.mx [iA p_a.page, iA p_a.slot], 34, 0⟩, some ⟨.mx [iA p_b.page, iA p_b.slot], 34, 0⟩] rfl rfl ?_; refine PL.op rfl (Rd.asnT rfl) ?_; refine PL.nil ?_; refine thA_n ?_; (iterate 2 refine PC.seq ?_); refine PC.region ?_; refine PL.op rfl (Rd.fieldO rfl rfl) ?_; refine PL.op rfl (Rd.loadO rfl rfl rfl) ?_; refine PL.op rfl (Rd.fieldO rfl rfl) ?_; refine PL.op rfl (Rd.loadO rfl rfl rfl) ?_; refine PL.op rfl (Rd.neq rfl rfl) ?_; refine PL.nil ?_; refine thA_n ?_; rcases cond_some hh0 with ⟨h_1, hh0⟩ | ⟨h_1, hh0⟩; rotate_left
  · refine PC.cond_true rfl (not_f h_1) ?_; refine PC.seq ?_; refine PC.region ?_; refine PL.op rfl (Rd.asnT rfl) ?_; refine PL.nil ?_; refine thA_n ?_; refine PC.ret ?_; refine thA_r ?_; obtain rfl := some_in hh0; exact FinA.mk (r := bA false) (bl := []) [] (.inl rfl) rfl (rl := [.tmp 4]) (.tmp .nil) rfl rfl rfl (.t _) trivial ⟨rfl, rfl⟩
  refine PC.cond_false rfl (not_t h_1) ?_; refine PC.skip ?_; refine thA_n ?_; (iterate 2 refine PC.seq ?_); refine PC.region ?_; refine PL.op rfl (Rd.fieldO rfl rfl) ?_; refine PL.op rfl (Rd.loadO rfl rfl rfl) ?_; refine PL.op rfl (Rd.fieldO rfl rfl) ?_; refine PL.op rfl (Rd.loadO rfl rfl rfl) ?_; refine PL.op rfl (Rd.neq rfl rfl) ?_; refine PL.nil ?_; refine thA_n ?_; rcases cond_some hh0 with ⟨h_2, hh0⟩ | ⟨h_2, hh0⟩; rotate_left
  · refine PC.cond_true rfl (not_f h_2) ?_; refine PC.seq ?_; refine PC.region ?_; refine PL.op rfl (Rd.asnT rfl) ?_; refine PL.nil ?_; refine thA_n ?_; refine PC.ret ?_; refine thA_r ?_; obtain rfl := some_in hh0; exact FinA.mk (r := bA false) (bl := []) [] (.inl rfl) rfl (rl := [.tmp 4]) (.tmp .nil) rfl rfl rfl (.t _) trivial ⟨rfl, rfl⟩
  refine PC.cond_false rfl (not_t h_2) ?_; refine PC.skip ?_; refine thA_n ?_; refine PC.seq ?_; refine PC.region ?_; refine PL.op rfl (Rd.asnT rfl) ?_; refine PL.nil ?_; refine thA_n ?_; refine PC.ret ?_; obtain rfl := some_in hh0; exact FinA.mk (r := bA true) (bl := []) [] (.inl rfl) rfl (rl := [.tmp 4]) (.tmp .nil) rfl rfl rfl (.t _) trivial ⟨rfl, rfl⟩
end V
end Go.Proofs.Ytmnjnkcooofgjaa
namespace Go.Proofs.Ytmnjnkcooofgjaa
namespace V
set_option linter.unusedVariables false
set_option maxRecDepth 100000
theorem mayEnter_of {P : Program} {c : List Char} {rest : List (List Char)} (h : behindMainWord (wordsSigns P.initOrder.toList) = c :: rest)
    (h1 : ((stripLifts liftWords (c :: rest)).2.head? == some "cut".toList) = true) (h2 : ((stripLifts liftWords (c :: rest)).1.contains "finals" || !P.laysLater) = true)
    (h3 : ((stripLifts liftWords (c :: rest)).1.contains "reflectrows" || !P.bearsReflect) = true) (h4 : ((stripLifts liftWords (c :: rest)).1.contains "reflectrows" || !(stripLifts liftWords (c :: rest)).1.contains "leanrows") = true)
    (h5 : P.doorFits (stripLifts liftWords (c :: rest)).1 = true) : P.mayEnter = true := by
  unfold Program.mayEnter
  rw [h]
  simp only [h1, h2, h3, h4, h5, Bool.and_true, Bool.or_true]
theorem lifted_of {P : Program} {b : Bool} (h : P.liftsFinal = false) (hb : b = false) : (b == P.liftsFinal) = true := by rw [h, hb]; rfl
theorem make_of {P : Program} {m : Make} (h : P.make = some .cut) (hm : m = .cut) : (P.make == some m) = true := by rw [h, hm]; rfl
theorem iniT : Try.prog.initOrder = String.ofList (List.map Char.ofNat [104, 97, 114, 110, 101, 115, 115, 32, 100, 48, 50, 102, 97, 101, 56, 56, 97, 98, 56, 100, 50, 55, 54, 53, 53, 50, 53, 57, 101, 53, 97, 101, 53, 52, 102, 55, 99, 48, 98, 98, 48, 53, 51, 55, 99, 98, 102, 48, 50, 48, 53, 50, 54, 54, 100, 101, 55, 51, 99, 97, 55, 52, 53, 51, 52, 57, 48, 97, 100, 98, 48, 57, 32, 99, 117, 116, 32, 97, 116, 32, 108, 111, 111, 112, 46, 101, 120, 97, 109, 112, 108, 101, 47, 115, 99, 104, 101, 109, 97, 109, 105, 103, 114, 97, 116, 105, 111, 110, 47, 108, 97, 119, 115, 46, 70, 110, 69, 120, 97, 99, 116, 72, 101, 97, 112, 68, 101, 108, 101, 116, 101, 32, 108, 111, 111, 112, 46, 101, 120, 97, 109, 112, 108, 101, 47, 115, 99, 104, 101, 109, 97, 109, 105, 103, 114, 97, 116, 105, 111, 110, 47, 108, 97, 119, 115, 46, 70, 110, 69, 120, 97, 99, 116, 72, 101, 97, 112, 73, 110, 115, 101, 114, 116, 32, 108, 111, 111, 112, 46, 101, 120, 97, 109, 112, 108, 101, 47, 115, 99, 104, 101, 109, 97, 109, 105, 103, 114, 97, 116, 105, 111, 110, 47, 108, 97, 119, 115, 46, 70, 110, 69, 120, 97, 99, 116, 72, 101, 97, 112, 85, 112, 100, 97, 116, 101]) := by kernel_rfl
theorem iniW : behindMainWord (wordsSigns Try.prog.initOrder.toList) = List.map Char.ofNat [99, 117, 116] :: List.map (List.map Char.ofNat) [[97, 116], [108, 111, 111, 112, 46, 101, 120, 97, 109, 112, 108, 101, 47, 115, 99, 104, 101, 109, 97, 109, 105, 103, 114, 97, 116, 105, 111, 110, 47, 108, 97, 119, 115, 46, 70, 110, 69, 120, 97, 99, 116, 72, 101, 97, 112, 68, 101, 108, 101, 116, 101], [108, 111, 111, 112, 46, 101, 120, 97, 109, 112, 108, 101, 47, 115, 99, 104, 101, 109, 97, 109, 105, 103, 114, 97, 116, 105, 111, 110, 47, 108, 97, 119, 115, 46, 70, 110, 69, 120, 97, 99, 116, 72, 101, 97, 112, 73, 110, 115, 101, 114, 116], [108, 111, 111, 112, 46, 101, 120, 97, 109, 112, 108, 101, 47, 115, 99, 104, 101, 109, 97, 109, 105, 103, 114, 97, 116, 105, 111, 110, 47, 108, 97, 119, 115, 46, 70, 110, 69, 120, 97, 99, 116, 72, 101, 97, 112, 85, 112, 100, 97, 116, 101]] := by rw [iniT, String.toList_ofList]; kernel_rfl
theorem mayE : Try.prog.mayEnter = true := mayEnter_of iniW (by kernel_rfl) (by kernel_rfl) (by kernel_rfl) (by kernel_rfl) (by kernel_rfl)
theorem liftE : Try.prog.liftsFinal = false := by
  unfold Program.liftsFinal Program.headLifts
  rw [iniW]
  kernel_rfl
theorem make_cut {P : Program} {c : List Char} {rest : List (List Char)} (h : behindMainWord (wordsSigns P.initOrder.toList) = c :: rest) (h1 : (c == "gc".toList || c == "spec".toList) = false) (h2 : (c == "cut".toList || (c == "finals".toList && rest.head? == some "cut".toList)) = true) : P.make = some .cut := by
  unfold Program.make
  rw [h]
  simp only [h1, h2, if_true, Bool.false_eq_true, if_false]
theorem makeE : Try.prog.make = some .cut := make_cut iniW (by kernel_rfl) (by kernel_rfl)
end V
end Go.Proofs.Ytmnjnkcooofgjaa
namespace Go.Proofs.Ytmnjnkcooofgjaa
namespace V
open Enc (enc)
set_option linter.unusedVariables false
set_option linter.unusedSimpArgs false
set_option maxHeartbeats 4000000
set_option maxRecDepth 100000
open Go.RowKit
attribute [local irreducible] thA inA FinA eL
open Szd (szd)
open Go.ChangeShapes Go.WideShapes Go.ChangeAt
instance : Opn Try.prog Bool 4 := Opn.bool Try.underlying4
instance : Opn Try.prog ByteArray 9 := Opn.str Try.underlying9
instance : Szd L_Slot := ⟨fun x => szd x.live ∧ szd x.data⟩
instance : Opn Try.prog L_Slot 85 := ⟨fun {H en W fuel cs x} h => by
  obtain ⟨hl, hf⟩ := opn_fields Try.underlying85 h; rw [show Try.prog.cellsOf 85 = 2 by kernel_rfl] at hl; obtain ⟨n0, y0, h0⟩ := hf 0 _ rfl
  replace h0 : DataW.trod en Try.prog W 0 (fun _ => true) true n0 4 ((cs.drop 0).take (Try.prog.cellsOf 4)) = some y0 := h0
  rw [show Try.prog.cellsOf 4 = 1 by kernel_rfl] at h0; obtain ⟨a0, g0, s0⟩ := (inferInstance : Opn Try.prog Bool 4).opn h0; obtain ⟨n1, y1, h1⟩ := hf 1 _ rfl
  replace h1 : DataW.trod en Try.prog W 0 (fun _ => true) true n1 9 ((cs.drop 1).take (Try.prog.cellsOf 9)) = some y1 := h1
  rw [show Try.prog.cellsOf 9 = 1 by kernel_rfl] at h1; obtain ⟨a1, g1, s1⟩ := (inferInstance : Opn Try.prog ByteArray 9).opn h1; refine ⟨⟨a0, a1⟩, ?_, s0, s1⟩; have := TL.step g0 (TL.step g1 (TL.fin hl) rfl) rfl; exact this⟩
instance : Opn Try.prog (List L_Slot) 63 := Opn.sl Try.underlying63 (by kernel_rfl) (by decide)
instance : Szd L_Page := ⟨fun x => szd x.slots⟩
instance : Opn Try.prog L_Page 65 := ⟨fun {H en W fuel cs x} h => by
  obtain ⟨hl, hf⟩ := opn_fields Try.underlying65 h; rw [show Try.prog.cellsOf 65 = 1 by kernel_rfl] at hl; obtain ⟨n0, y0, h0⟩ := hf 0 _ rfl
  replace h0 : DataW.trod en Try.prog W 0 (fun _ => true) true n0 63 ((cs.drop 0).take (Try.prog.cellsOf 63)) = some y0 := h0
  rw [show Try.prog.cellsOf 63 = 1 by kernel_rfl] at h0; obtain ⟨a0, g0, s0⟩ := (inferInstance : Opn Try.prog (List L_Slot) 63).opn h0; refine ⟨⟨a0⟩, ?_, s0⟩; have := TL.step g0 (TL.fin hl) rfl; exact this⟩
instance : Opn Try.prog (List L_Page) 22 := Opn.sl Try.underlying22 (by kernel_rfl) (by decide)
instance : Szd L_Heap := ⟨fun x => szd x.pages⟩
instance : Opn Try.prog L_Heap 24 := ⟨fun {H en W fuel cs x} h => by
  obtain ⟨hl, hf⟩ := opn_fields Try.underlying24 h; rw [show Try.prog.cellsOf 24 = 1 by kernel_rfl] at hl; obtain ⟨n0, y0, h0⟩ := hf 0 _ rfl
  replace h0 : DataW.trod en Try.prog W 0 (fun _ => true) true n0 22 ((cs.drop 0).take (Try.prog.cellsOf 22)) = some y0 := h0
  rw [show Try.prog.cellsOf 22 = 1 by kernel_rfl] at h0; obtain ⟨a0, g0, s0⟩ := (inferInstance : Opn Try.prog (List L_Page) 22).opn h0; refine ⟨⟨a0⟩, ?_, s0⟩; have := TL.step g0 (TL.fin hl) rfl; exact this⟩
instance : Opn Try.prog Int 3 := Opn.int Try.underlying3
instance : Szd L_Rid := ⟨fun x => szd x.page ∧ szd x.slot⟩
instance : Opn Try.prog L_Rid 26 := ⟨fun {H en W fuel cs x} h => by
  obtain ⟨hl, hf⟩ := opn_fields Try.underlying26 h; rw [show Try.prog.cellsOf 26 = 2 by kernel_rfl] at hl; obtain ⟨n0, y0, h0⟩ := hf 0 _ rfl
  replace h0 : DataW.trod en Try.prog W 0 (fun _ => true) true n0 3 ((cs.drop 0).take (Try.prog.cellsOf 3)) = some y0 := h0
  rw [show Try.prog.cellsOf 3 = 1 by kernel_rfl] at h0; obtain ⟨a0, g0, s0⟩ := (inferInstance : Opn Try.prog Int 3).opn h0; obtain ⟨n1, y1, h1⟩ := hf 1 _ rfl
  replace h1 : DataW.trod en Try.prog W 0 (fun _ => true) true n1 3 ((cs.drop 1).take (Try.prog.cellsOf 3)) = some y1 := h1
  rw [show Try.prog.cellsOf 3 = 1 by kernel_rfl] at h1; obtain ⟨a1, g1, s1⟩ := (inferInstance : Opn Try.prog Int 3).opn h1; refine ⟨⟨a0, a1⟩, ?_, s0, s1⟩; have := TL.step g0 (TL.step g1 (TL.fin hl) rfl) rfl; exact this⟩
end V
end Go.Proofs.Ytmnjnkcooofgjaa
namespace Go.Proofs.Ytmnjnkcooofgjaa
namespace V
set_option linter.unusedVariables false
set_option linter.unusedSimpArgs false
set_option maxHeartbeats 1000000
/-- A heap that is valid. -/
def vH (h : I_Heap) : Prop := h.pages.length ≤ 6 ∧ ∀ p ∈ h.pages, vP p
noncomputable instance (h : I_Heap) : Decidable (vH h) := Classical.propDecidable _
/-- Pages that a machine can hold. -/
structure HB (l : List I_Page) : Prop where
  len : l.length ≤ 2000000
  pg : ∀ p ∈ l, PB p.slots
/-- A record put on the first page with room. -/
noncomputable def insP (l : List I_Page) (d : ByteArray) : I_Heap × I_Rid × Bool :=
  match l[l.findIdx (fun p => (putP p d).2.2)]? with
  | some p => (⟨l.set (l.findIdx (fun p => (putP p d).2.2)) (putP p d).1⟩, ⟨(l.findIdx (fun p => (putP p d).2.2) : Nat), (putP p d).2.1⟩, true)
  | none => if (putP ⟨[]⟩ d).2.2 = true ∧ l.length ≠ 6 then (⟨l ++ [(putP ⟨[]⟩ d).1]⟩, ⟨(l.length : Nat), (putP ⟨[]⟩ d).2.1⟩, true) else (⟨[]⟩, ⟨0, 0⟩, false)
noncomputable def hIns (h : I_Heap) (d : ByteArray) : I_Heap × I_Rid × Bool := if vH h then insP h.pages d else (⟨[]⟩, ⟨0, 0⟩, false)
noncomputable def hDel (h : I_Heap) (r : I_Rid) : I_Heap × Bool :=
  if vH h ∧ 0 ≤ r.page then (match h.pages[r.page.toNat]? with
    | some p => if (clearP p r.slot).2 = true then (⟨h.pages.set r.page.toNat (clearP p r.slot).1⟩, true) else (⟨[]⟩, false)
    | none => (⟨[]⟩, false)) else (⟨[]⟩, false)
noncomputable def hUpd (h : I_Heap) (r : I_Rid) (d : ByteArray) : I_Heap × I_Rid × Bool :=
  if vH h ∧ 0 ≤ r.page then (match h.pages[r.page.toNat]? with
    | some p => if (setP p r.slot d).2 = true then (⟨h.pages.set r.page.toNat (setP p r.slot d).1⟩, r, true)
      else if (clearP p r.slot).2 = true then insP (h.pages.set r.page.toNat (clearP p r.slot).1) d else (⟨[]⟩, ⟨0, 0⟩, false)
    | none => (⟨[]⟩, ⟨0, 0⟩, false)) else (⟨[]⟩, ⟨0, 0⟩, false)
theorem vP_set {p : I_Page} {k : Int} {d : ByteArray} (h : (setP p k d).2 = true) : vP (setP p k d).1 ∧ lvP p k := by
  unfold setP at h ⊢
  split at h
  · rename_i h1
    rw [if_pos h1]
    split at h
    · rename_i h2; rw [if_pos h2]; exact ⟨h2, h1⟩
    · cases h
  · cases h
section
variable {N : Nat} (hN : 100000000 ≤ N)
include hN
theorem vHI {h : I_Heap} (hb : HB h.pages) : m_I_ValidHeap N h = some (decide (vH h)) := by
  refine bool_eq ?_
  unfold m_I_ValidHeap
  have hl := hb.len
  by_cases h6 : 6 < h.pages.length
  · refine ok.ift (by omega) (ok.some ?_)
    simp [vH]; omega
  refine ok.iff (by omega) ?_
  refine ok.call (P := fun o => match o with | .inl _ => ∀ p ∈ h.pages, vP p | .inr v => v = false ∧ ¬ vH h) (ok.each h.pages.length (fun i s => s = (i : Int) ∧ ∀ k (h1 : k < h.pages.length), k < i → vP h.pages[k]) _ ?_ ?_ N 0 0 (Nat.zero_le _) ⟨rfl, fun k _ h => by omega⟩ (by omega)) ?_
  · rintro i _ hi ⟨rfl, hg⟩
    unfold m_I_ValidHeap_b1
    repeat' (first | (with_reducible refine ok.some ?_) | ((with_reducible refine ok.eq (ixI_nat hi) ?_)) | ((with_reducible refine ok.eq (validPI hN (hb.pg _ (List.getElem_mem hi))) ?_)) | (with_reducible refine ok.ite (fun hc => ?_) (fun hc => ?_)) | (with_reducible refine ok.cond (fun hc => ?_) (fun hc => ?_)) | (with_reducible refine ok.chk (by omega) ?_) | (with_reducible refine ok.bs ?_) | (with_reducible refine ok.remM (by omega) (fun _ hq => ?_)) | (with_reducible refine ok.quoM (by omega) (fun _ hq => ?_)) | (with_reducible refine ok.ix (by omega) (by omega) (fun q hq he => ?_)))
    · refine ⟨by simp, fun k h1 h2 => ?_⟩
      rcases Nat.lt_succ_iff_lt_or_eq.1 h2 with h4 | h4
      · exact hg k h1 h4
      · subst h4; exact hc
    · exact ⟨rfl, fun hv => hc (hv.2 _ (List.getElem_mem hi))⟩
    · omega
  · rintro _ ⟨rfl, hg⟩
    unfold m_I_ValidHeap_b1
    repeat' (first | (with_reducible refine ok.some ?_) | (with_reducible refine ok.iff (by omega) ?_) | (with_reducible refine ok.ite (fun hc => ?_) (fun hc => ?_)) | (with_reducible refine ok.cond (fun hc => ?_) (fun hc => ?_)) | (with_reducible refine ok.chk (by omega) ?_) | (with_reducible refine ok.bs ?_) | (with_reducible refine ok.remM (by omega) (fun _ hq => ?_)) | (with_reducible refine ok.quoM (by omega) (fun _ hq => ?_)) | (with_reducible refine ok.ix (by omega) (by omega) (fun q hq he => ?_)))
    intro s hs
    obtain ⟨k, hk, rfl⟩ := List.getElem_of_mem hs
    exact hg k hk hk
  · rintro (u | r) hq
    · exact ok.some ⟨fun _ => ⟨by omega, hq⟩, fun _ => rfl⟩
    · exact ok.some (by simp [hq.1, hq.2])
theorem vHS {h : I_Heap} (hb : HB h.pages) : m_S_validHeap N h = some (decide (vH h)) := by
  refine bool_eq ?_
  unfold m_S_validHeap
  have hl := hb.len
  refine ok.call (P := fun o => match o with | .inl _ => ∀ p ∈ h.pages, vP p | .inr v => v = false ∧ ¬ vH h) (ok.each h.pages.length (fun i s => s = (i : Int) ∧ ∀ k (h1 : k < h.pages.length), k < i → vP h.pages[k]) _ ?_ ?_ N 0 0 (Nat.zero_le _) ⟨rfl, fun k _ h => by omega⟩ (by omega)) ?_
  · rintro i _ hi ⟨rfl, hg⟩
    unfold m_S_validHeap_b1
    repeat' (first | (with_reducible refine ok.some ?_) | ((with_reducible refine ok.eq (ixI_nat hi) ?_)) | ((with_reducible refine ok.eq (validPS hN (hb.pg _ (List.getElem_mem hi))) ?_)) | (with_reducible refine ok.ite (fun hc => ?_) (fun hc => ?_)) | (with_reducible refine ok.cond (fun hc => ?_) (fun hc => ?_)) | (with_reducible refine ok.chk (by omega) ?_) | (with_reducible refine ok.bs ?_) | (with_reducible refine ok.remM (by omega) (fun _ hq => ?_)) | (with_reducible refine ok.quoM (by omega) (fun _ hq => ?_)) | (with_reducible refine ok.ix (by omega) (by omega) (fun q hq he => ?_)))
    · refine ⟨by simp, fun k h1 h2 => ?_⟩
      rcases Nat.lt_succ_iff_lt_or_eq.1 h2 with h4 | h4
      · exact hg k h1 h4
      · subst h4; exact hc
    · exact ⟨rfl, fun hv => hc (hv.2 _ (List.getElem_mem hi))⟩
    · omega
  · rintro _ ⟨rfl, hg⟩
    unfold m_S_validHeap_b1
    repeat' (first | (with_reducible refine ok.some ?_) | (with_reducible refine ok.iff (by omega) ?_) | (with_reducible refine ok.ite (fun hc => ?_) (fun hc => ?_)) | (with_reducible refine ok.cond (fun hc => ?_) (fun hc => ?_)) | (with_reducible refine ok.chk (by omega) ?_) | (with_reducible refine ok.bs ?_) | (with_reducible refine ok.remM (by omega) (fun _ hq => ?_)) | (with_reducible refine ok.quoM (by omega) (fun _ hq => ?_)) | (with_reducible refine ok.ix (by omega) (by omega) (fun q hq he => ?_)))
    intro s hs
    obtain ⟨k, hk, rfl⟩ := List.getElem_of_mem hs
    exact hg k hk hk
  · rintro (u | r) hq
    · show ok (m_S_validHeap_k1 N h) _
      unfold m_S_validHeap_k1
      refine ok.some ⟨fun h6 => ⟨by have := of_decide_eq_true h6; omega, hq⟩, fun h => decide_eq_true (by have := h.1; omega)⟩
    · exact ok.some (by simp [hq.1, hq.2])
theorem cloneH {h : I_Heap} (hb : HB h.pages) : m_I_Heap_clone N h = some h := by
  refine ok.val ?_
  unfold m_I_Heap_clone
  have hl := hb.len
  refine ok.call (ok.each h.pages.length (fun i s => s = ((i : Int), h.pages.take i)) (fun b => b = h.pages) ?_ ?_ N 0 _ (Nat.zero_le _) rfl (by omega)) ?_
  · rintro i _ hi rfl
    unfold m_I_Heap_clone_b1
    dsimp only
    repeat' (first | (with_reducible refine ok.some ?_) | ((with_reducible refine ok.eq (ixI_nat hi) ?_)) | ((with_reducible refine ok.eq (cloneP (hb.pg _ (List.getElem_mem hi))) ?_)) | ((with_reducible refine ok.app ⟨by simp; omega, by simp; omega⟩ ?_)) | (with_reducible refine ok.ite (fun hc => ?_) (fun hc => ?_)) | (with_reducible refine ok.cond (fun hc => ?_) (fun hc => ?_)) | (with_reducible refine ok.chk (by omega) ?_) | (with_reducible refine ok.bs ?_) | (with_reducible refine ok.remM (by omega) (fun _ hq => ?_)) | (with_reducible refine ok.quoM (by omega) (fun _ hq => ?_)) | (with_reducible refine ok.ix (by omega) (by omega) (fun q hq he => ?_)))
    · show _ = _
      simp
    · omega
  · rintro _ rfl
    unfold m_I_Heap_clone_b1
    repeat' (first | (with_reducible refine ok.some ?_) | (with_reducible refine ok.iff (by omega) ?_) | (with_reducible refine ok.ite (fun hc => ?_) (fun hc => ?_)) | (with_reducible refine ok.cond (fun hc => ?_) (fun hc => ?_)) | (with_reducible refine ok.chk (by omega) ?_) | (with_reducible refine ok.bs ?_) | (with_reducible refine ok.remM (by omega) (fun _ hq => ?_)) | (with_reducible refine ok.quoM (by omega) (fun _ hq => ?_)) | (with_reducible refine ok.ix (by omega) (by omega) (fun q hq he => ?_)))
    simp
  · rintro e rfl
    exact ok.some rfl
theorem copyH {h : I_Heap} (hb : HB h.pages) : m_S_copyHeap N h = some h := by
  refine ok.val ?_
  unfold m_S_copyHeap
  have hl := hb.len
  refine ok.call (ok.each h.pages.length (fun i s => s = ((i : Int), h.pages.take i)) (fun b => b = h.pages) ?_ ?_ N 0 _ (Nat.zero_le _) rfl (by omega)) ?_
  · rintro i _ hi rfl
    have h4 := (hb.pg _ (List.getElem_mem hi)).len
    unfold m_S_copyHeap_b1
    dsimp only
    repeat' (first | (with_reducible refine ok.some ?_) | ((with_reducible refine ok.eq (ixI_nat hi) ?_)) | ((with_reducible refine ok.app ⟨by simp; omega, by simp; omega⟩ ?_)) | (with_reducible refine ok.ite (fun hc => ?_) (fun hc => ?_)) | (with_reducible refine ok.cond (fun hc => ?_) (fun hc => ?_)) | (with_reducible refine ok.chk (by omega) ?_) | (with_reducible refine ok.bs ?_) | (with_reducible refine ok.remM (by omega) (fun _ hq => ?_)) | (with_reducible refine ok.quoM (by omega) (fun _ hq => ?_)) | (with_reducible refine ok.ix (by omega) (by omega) (fun q hq he => ?_)))
    · show ((i : Int) + 1, h.pages.take i ++ [h.pages[i]]) = _
      simp
    · omega
  · rintro _ rfl
    unfold m_S_copyHeap_b1
    repeat' (first | (with_reducible refine ok.some ?_) | (with_reducible refine ok.iff (by omega) ?_) | (with_reducible refine ok.ite (fun hc => ?_) (fun hc => ?_)) | (with_reducible refine ok.cond (fun hc => ?_) (fun hc => ?_)) | (with_reducible refine ok.chk (by omega) ?_) | (with_reducible refine ok.bs ?_) | (with_reducible refine ok.remM (by omega) (fun _ hq => ?_)) | (with_reducible refine ok.quoM (by omega) (fun _ hq => ?_)) | (with_reducible refine ok.ix (by omega) (by omega) (fun q hq he => ?_)))
    simp
  · rintro e rfl
    exact ok.some rfl
theorem insI {h : I_Heap} {d : ByteArray} (hb : HB h.pages) (hd : d.size ≤ 1000000000) : m_I_HeapInsert N h d = some (hIns h d) := by
  refine ok.val ?_
  unfold m_I_HeapInsert hIns
  have hl := hb.len
  refine ok.eq (vHI hN hb) ?_
  refine ok.ite (fun hv => ?_) fun hv => ok.some (by rw [if_neg hv])
  rw [if_pos hv]
  refine ok.eq (cloneH hN hb) ?_
  unfold insP
  generalize hk : h.pages.findIdx (fun p => (putP p d).2.2) = k
  have hkl : k ≤ h.pages.length := by rw [← hk]; exact List.findIdx_le_length
  have hlt : ∀ i (hi : i < h.pages.length), i < k → (putP h.pages[i] d).2.2 = false := fun i hi h1 => by
    have := List.not_of_lt_findIdx (p := fun p => (putP p d).2.2) (xs := h.pages) (i := i) (by rw [hk]; exact h1)
    simpa using this
  have hat : ∀ (hi : k < h.pages.length), (putP h.pages[k] d).2.2 = true := fun hi => by
    subst hk; exact List.findIdx_getElem (w := hi)
  refine ok.call (P := fun o => match o with | .inl _ => k = h.pages.length | .inr v => ∃ hi : k < h.pages.length, v = (⟨h.pages.set k (putP h.pages[k] d).1⟩, ⟨(k : Nat), (putP h.pages[k] d).2.1⟩, true)) (ok.each h.pages.length (fun i s => s = (i : Int) ∧ i ≤ k) _ ?_ ?_ N 0 0 (Nat.zero_le _) ⟨rfl, Nat.zero_le _⟩ (by omega)) ?_
  · rintro i _ hi ⟨rfl, hg⟩
    unfold m_I_HeapInsert_b1
    repeat' (first | (with_reducible refine ok.some ?_) | ((with_reducible refine ok.eq (ixI_nat hi) ?_)) | ((with_reducible refine ok.eq (putI hN (hb.pg _ (List.getElem_mem hi)) hd) ?_)) | (with_reducible refine ok.ite (fun hc => ?_) (fun hc => ?_)) | (with_reducible refine ok.cond (fun hc => ?_) (fun hc => ?_)) | (with_reducible refine ok.chk (by omega) ?_) | (with_reducible refine ok.bs ?_) | (with_reducible refine ok.remM (by omega) (fun _ hq => ?_)) | (with_reducible refine ok.quoM (by omega) (fun _ hq => ?_)) | (with_reducible refine ok.ix (by omega) (by omega) (fun q hq he => ?_)))
    · have : i = k := by
        rcases Nat.lt_or_ge i k with h1 | h1
        · rw [hlt i hi h1] at hc; cases hc
        · omega
      subst this
      exact ⟨hi, by simp⟩
    · refine ⟨by simp, ?_⟩
      rcases Nat.lt_or_ge i k with h1 | h1
      · exact h1
      · obtain rfl : i = k := by omega
        rw [hat hi] at hc; cases hc
    · omega
  · rintro _ ⟨rfl, hg⟩
    unfold m_I_HeapInsert_b1
    repeat' (first | (with_reducible refine ok.some ?_) | (with_reducible refine ok.iff (by omega) ?_) | (with_reducible refine ok.ite (fun hc => ?_) (fun hc => ?_)) | (with_reducible refine ok.cond (fun hc => ?_) (fun hc => ?_)) | (with_reducible refine ok.chk (by omega) ?_) | (with_reducible refine ok.bs ?_) | (with_reducible refine ok.remM (by omega) (fun _ hq => ?_)) | (with_reducible refine ok.quoM (by omega) (fun _ hq => ?_)) | (with_reducible refine ok.ix (by omega) (by omega) (fun q hq he => ?_)))
    show _ = _
    omega
  · rintro (u | r) hq
    · have hq : k = h.pages.length := hq
      rw [List.getElem?_eq_none (by omega)]
      show ok (m_I_HeapInsert_k1 N d h) _
      unfold m_I_HeapInsert_k1
      refine ok.eq (putI hN PB.nil hd) ?_
      refine ok.cond (fun h1 => ?_) fun h1 => ok.some (by simp [h1])
      refine ok.ite (fun h2 => ok.some (by rw [if_neg (by omega)])) fun h2 => ?_
      refine ok.app ⟨by simp; omega, by simp; omega⟩ ?_
      refine ok.chk (by simp; omega) (ok.some ?_)
      rw [if_pos ⟨h1, by omega⟩]
      simp
    · obtain ⟨hi, rfl⟩ := hq
      rw [List.getElem?_eq_getElem hi]
      exact ok.some rfl
theorem insS {h : I_Heap} {d : ByteArray} (hb : HB h.pages) (hd : d.size ≤ 1000000000) : m_S_insert N h d = some (insP h.pages d) := by
  refine ok.val ?_
  unfold m_S_insert
  have hl := hb.len
  refine ok.eq (copyH hN hb) ?_
  unfold insP
  generalize hk : h.pages.findIdx (fun p => (putP p d).2.2) = k
  have hkl : k ≤ h.pages.length := by rw [← hk]; exact List.findIdx_le_length
  have hlt : ∀ i (hi : i < h.pages.length), i < k → (putP h.pages[i] d).2.2 = false := fun i hi h1 => by
    have := List.not_of_lt_findIdx (p := fun p => (putP p d).2.2) (xs := h.pages) (i := i) (by rw [hk]; exact h1)
    simpa using this
  have hat : ∀ (hi : k < h.pages.length), (putP h.pages[k] d).2.2 = true := fun hi => by
    subst hk; exact List.findIdx_getElem (w := hi)
  refine ok.call (P := fun o => match o with | .inl _ => k = h.pages.length | .inr v => ∃ hi : k < h.pages.length, v = (⟨h.pages.set k (putP h.pages[k] d).1⟩, ⟨(k : Nat), (putP h.pages[k] d).2.1⟩, true)) (ok.each h.pages.length (fun i s => s = (i : Int) ∧ i ≤ k) _ ?_ ?_ N 0 0 (Nat.zero_le _) ⟨rfl, Nat.zero_le _⟩ (by omega)) ?_
  · rintro i _ hi ⟨rfl, hg⟩
    unfold m_S_insert_b1
    repeat' (first | (with_reducible refine ok.some ?_) | ((with_reducible refine ok.eq (ixI_nat hi) ?_)) | ((with_reducible refine ok.eq (putS hN (hb.pg _ (List.getElem_mem hi)) hd) ?_)) | (with_reducible refine ok.ite (fun hc => ?_) (fun hc => ?_)) | (with_reducible refine ok.cond (fun hc => ?_) (fun hc => ?_)) | (with_reducible refine ok.chk (by omega) ?_) | (with_reducible refine ok.bs ?_) | (with_reducible refine ok.remM (by omega) (fun _ hq => ?_)) | (with_reducible refine ok.quoM (by omega) (fun _ hq => ?_)) | (with_reducible refine ok.ix (by omega) (by omega) (fun q hq he => ?_)))
    · have : i = k := by
        rcases Nat.lt_or_ge i k with h1 | h1
        · rw [hlt i hi h1] at hc; cases hc
        · omega
      subst this
      exact ⟨hi, by simp⟩
    · refine ⟨by simp, ?_⟩
      rcases Nat.lt_or_ge i k with h1 | h1
      · exact h1
      · obtain rfl : i = k := by omega
        rw [hat hi] at hc; cases hc
    · omega
  · rintro _ ⟨rfl, hg⟩
    unfold m_S_insert_b1
    repeat' (first | (with_reducible refine ok.some ?_) | (with_reducible refine ok.iff (by omega) ?_) | (with_reducible refine ok.ite (fun hc => ?_) (fun hc => ?_)) | (with_reducible refine ok.cond (fun hc => ?_) (fun hc => ?_)) | (with_reducible refine ok.chk (by omega) ?_) | (with_reducible refine ok.bs ?_) | (with_reducible refine ok.remM (by omega) (fun _ hq => ?_)) | (with_reducible refine ok.quoM (by omega) (fun _ hq => ?_)) | (with_reducible refine ok.ix (by omega) (by omega) (fun q hq he => ?_)))
    show _ = _
    omega
  · rintro (u | r) hq
    · have hq : k = h.pages.length := hq
      rw [List.getElem?_eq_none (by omega)]
      show ok (m_S_insert_k1 N h d h) _
      unfold m_S_insert_k1
      refine ok.eq (putS hN PB.nil hd) ?_
      refine ok.cond (fun h1 => ?_) fun h1 => ok.some (by simp [h1])
      refine ok.ite (fun h2 => ok.some (by rw [if_neg (by omega)])) fun h2 => ?_
      refine ok.app ⟨by simp; omega, by simp; omega⟩ ?_
      refine ok.some ?_
      rw [if_pos ⟨h1, by omega⟩]
    · obtain ⟨hi, rfl⟩ := hq
      rw [List.getElem?_eq_getElem hi]
      exact ok.some rfl
theorem hInsS {h : I_Heap} {d : ByteArray} (hb : HB h.pages) (hd : d.size ≤ 1000000000) : m_S_HeapInsert N h d = some (hIns h d) := by
  unfold m_S_HeapInsert hIns
  rw [vHS hN hb]
  by_cases hv : vH h
  · simp only [Option.bind_some, decide_eq_true hv, cond_true, if_pos hv, insS hN hb hd]
  · simp [hv]
theorem delI {h : I_Heap} {r : I_Rid} (hb : HB h.pages) : m_I_HeapDelete N h r = some (hDel h r) := by
  refine ok.val ?_
  unfold m_I_HeapDelete hDel m_I_Heap_has
  refine ok.eq (vHI hN hb) ?_
  refine ok.ite (fun hv => ?_) fun hv => ok.some (by rw [if_neg (fun h => hv h.1)])
  by_cases h0 : 0 ≤ r.page
  case neg =>
    rw [if_neg (fun h => h0 h.2), decide_eq_false h0]
    exact ok.some rfl
  rw [if_pos ⟨hv, h0⟩, decide_eq_true h0, cond_true]
  refine ok.bs ?_
  refine ok.ite (fun h1 => ?_) fun h1 => ok.some (by rw [List.getElem?_eq_none (by omega)])
  have hlt : r.page.toNat < h.pages.length := by omega
  refine ok.eq (ixI_eq (n := r.page.toNat) (by omega) hlt) ?_
  rw [List.getElem?_eq_getElem hlt]
  refine ok.eq (clearI hN (hb.pg _ (List.getElem_mem hlt))) ?_
  refine ok.cond (fun h2 => ?_) fun h2 => ok.some (by simp [h2])
  refine ok.eq (cloneH hN hb) (ok.eq (ixI_eq (n := r.page.toNat) (by omega) hlt) (ok.some ?_))
  dsimp only
  rw [if_pos h2]
theorem delS {h : I_Heap} {r : I_Rid} (hb : HB h.pages) : m_S_HeapDelete N h r = some (hDel h r) := by
  refine ok.val ?_
  unfold m_S_HeapDelete hDel
  have hl := hb.len
  refine ok.eq (vHS hN hb) ?_
  refine ok.ite (fun hv => ?_) fun hv => ok.some (by rw [if_neg (fun h => hv h.1)])
  refine ok.chk (by omega) ?_
  refine ok.eq (inRange_eq N _ _ _) ?_
  by_cases h0 : 0 ≤ r.page
  case neg =>
    rw [if_neg (fun h => h0 h.2), decide_eq_false (fun h => h0 h.1)]
    exact ok.some rfl
  rw [if_pos ⟨hv, h0⟩]
  refine ok.ite (fun h1 => ?_) fun h1 => ok.some (by rw [List.getElem?_eq_none (by omega)])
  have hlt : r.page.toNat < h.pages.length := by omega
  refine ok.eq (ixI_eq (n := r.page.toNat) (by omega) hlt) ?_
  rw [List.getElem?_eq_getElem hlt]
  refine ok.eq (clearS hN (hb.pg _ (List.getElem_mem hlt))) ?_
  refine ok.cond (fun h2 => ?_) fun h2 => ok.some (by simp [h2])
  refine ok.eq (copyH hN hb) (ok.eq (ixI_eq (n := r.page.toNat) (by omega) hlt) (ok.some ?_))
  dsimp only
  rw [if_pos h2]
omit hN in
theorem HB.set {l : List I_Page} (h : HB l) (i : Nat) {x : I_Page} (hx : PB x.slots) : HB (l.set i x) := ⟨by simpa using h.len, fun s hs => by
  rcases List.mem_or_eq_of_mem_set hs with h1 | h1
  · exact h.pg s h1
  · subst h1; exact hx⟩
omit hN in
theorem PB.clear {p : I_Page} (h : PB p.slots) (k : Int) : PB (clearP p k).1.slots := by
  unfold clearP; split
  · exact (h.set _ noSlot_small).trim
  · exact PB.nil
omit hN in
theorem clear_vP {p : I_Page} {k : Int} (h : (clearP p k).2 = true) : lvP p k := by
  unfold clearP at h; split at h
  · assumption
  · cases h
omit hN in
theorem set_clear {p : I_Page} {k : Int} {d : ByteArray} (h : (setP p k d).2 = true) : (clearP p k).2 = true := by
  unfold clearP; rw [if_pos (vP_set h).2]
theorem updS {h : I_Heap} {r : I_Rid} {d : ByteArray} (hb : HB h.pages) (hd : d.size ≤ 1000000000) : m_S_HeapUpdate N h r d = some (hUpd h r d) := by
  refine ok.val ?_
  unfold m_S_HeapUpdate hUpd
  refine ok.eq (delS hN hb) ?_
  unfold hDel
  by_cases hc : vH h ∧ 0 ≤ r.page
  case neg => rw [if_neg hc, if_neg hc]; exact ok.some rfl
  rw [if_pos hc, if_pos hc]
  cases hp : h.pages[r.page.toNat]? with
  | none => exact ok.some rfl
  | some p =>
    obtain ⟨hlt, hpe⟩ := List.getElem?_eq_some_iff.1 hp
    have hpb := hb.pg p (List.mem_of_getElem? hp)
    dsimp only
    by_cases h1 : (clearP p r.slot).2 = true
    case neg =>
      rw [if_neg h1]
      have h2 : ¬ (setP p r.slot d).2 = true := fun h => h1 (set_clear h)
      rw [if_neg h2, if_neg h1]
      exact ok.some rfl
    rw [if_pos h1]
    refine ok.bt rfl ?_
    refine ok.eq (ixI_eq (n := r.page.toNat) (by omega) hlt) ?_
    rw [hpe]
    refine ok.eq (setS hN hpb hd) ?_
    refine ok.cond (fun h2 => ?_) fun h2 => ?_
    · rw [if_pos h2]
      refine ok.eq (copyH hN hb) (ok.eq (ixI_eq (n := r.page.toNat) (by omega) hlt) (ok.some rfl))
    · rw [if_neg (by rw [h2]; simp), if_pos h1]
      refine ok.eq (insS hN (hb.set _ (hpb.clear _)) hd) (ok.some rfl)
end
/-- A page without a record is valid still. -/
theorem usedP_trim_le (l : List I_Slot) : usedP (trimP l) ≤ usedP l := usedP_take_le _ _
theorem vP_clearP {p : I_Page} {k : Int} (h : (clearP p k).2 = true) : vP (clearP p k).1 := by
  have hk := clear_vP h
  unfold clearP; rw [if_pos hk]
  have hlt := lvP_lt hk
  have hv := hk.1
  have h1 := usedP_trim_le (p.slots.set k.toNat noSlot)
  have h2 := usedP_set hlt noSlot
  have h3 : (noSlot.data.size : Int) = 0 := rfl
  have h5 := hv.1
  have h6 := hv.2.2.2
  refine ⟨?_, fun s hs hd => ?_, trimP_lastL _, ?_⟩
  · have : (trimP (p.slots.set k.toNat noSlot)).length ≤ p.slots.length := by
      unfold trimP; simp; omega
    show (trimP _).length ≤ 8
    omega
  · have hs : s ∈ p.slots.set k.toNat noSlot := List.mem_of_mem_take hs
    rcases List.mem_or_eq_of_mem_set hs with h7 | h7
    · exact hv.2.1 s h7 hd
    · subst h7; rfl
  · show usedP (trimP _) ≤ 100
    omega
theorem vH_set {h : I_Heap} (hv : vH h) {i : Nat} {p : I_Page} (hp : vP p) : vH ⟨h.pages.set i p⟩ := ⟨by simpa using hv.1, fun q hq => by
  rcases List.mem_or_eq_of_mem_set hq with h1 | h1
  · exact hv.2 q h1
  · subst h1; exact hp⟩
section
variable {N : Nat} (hN : 100000000 ≤ N)
include hN
theorem updI {h : I_Heap} {r : I_Rid} {d : ByteArray} (hb : HB h.pages) (hd : d.size ≤ 1000000000) : m_I_HeapUpdate N h r d = some (hUpd h r d) := by
  refine ok.val ?_
  unfold m_I_HeapUpdate hUpd m_I_Heap_has
  refine ok.eq (vHI hN hb) ?_
  refine ok.ite (fun hv => ?_) fun hv => ok.some (by rw [if_neg (fun h => hv h.1)])
  by_cases h0 : 0 ≤ r.page
  case neg =>
    rw [if_neg (fun h => h0 h.2), decide_eq_false h0]
    exact ok.some rfl
  rw [if_pos ⟨hv, h0⟩, decide_eq_true h0, cond_true]
  refine ok.bs ?_
  refine ok.ite (fun h1 => ?_) fun h1 => ok.some (by rw [List.getElem?_eq_none (by omega)])
  have hlt : r.page.toNat < h.pages.length := by omega
  refine ok.eq (ixI_eq (n := r.page.toNat) (by omega) hlt) ?_
  rw [List.getElem?_eq_getElem hlt]
  have hpb := hb.pg _ (List.getElem_mem hlt)
  refine ok.eq (setI hN hpb hd) ?_
  refine ok.cond (fun h2 => ?_) fun h2 => ?_
  · refine ok.eq (cloneH hN hb) (ok.eq (ixI_eq (n := r.page.toNat) (by omega) hlt) (ok.some ?_))
    dsimp only
    rw [if_pos h2]
  · dsimp only
    rw [if_neg (by rw [h2]; simp)]
    refine ok.eq (delI hN hb) ?_
    have hdel : hDel h r = if (clearP h.pages[r.page.toNat] r.slot).2 = true then (⟨h.pages.set r.page.toNat (clearP h.pages[r.page.toNat] r.slot).1⟩, true) else (⟨[]⟩, false) := by
      unfold hDel; rw [if_pos ⟨hv, h0⟩, List.getElem?_eq_getElem hlt]
    rw [hdel]
    by_cases h3 : (clearP h.pages[r.page.toNat] r.slot).2 = true
    · rw [if_pos h3, if_pos h3]
      refine ok.bt rfl ?_
      refine ok.eq (insI hN (hb.set _ (hpb.clear _)) hd) (ok.some ?_)
      have hv' : vH ⟨h.pages.set r.page.toNat (clearP h.pages[r.page.toNat] r.slot).1⟩ := vH_set hv (vP_clearP h3)
      unfold hIns
      dsimp only
      rw [if_pos hv']
    · rw [if_neg h3, if_neg h3]
      exact ok.bf rfl (ok.some rfl)
end
end V
end Go.Proofs.Ytmnjnkcooofgjaa
namespace Go.Proofs.Ytmnjnkcooofgjaa
namespace V
set_option linter.unusedVariables false
set_option linter.unusedSimpArgs false
set_option maxRecDepth 100000
set_option maxHeartbeats 1000000
noncomputable def mkPg (N : Nat) (x : I_Page) (k : Int) : I_Page := ⟨mkL (mkSlot N) (fun _ => 2) x.slots k⟩
def cPg (x : I_Page) : Nat := 2 * x.slots.length
theorem len_L_markPageS (N : Nat) (a : List I_Page) (k : Int) (r : Int × List I_Page) (h : m_L_markPageS N a k = some r) : r.2.length = a.length := by
  unfold m_L_markPageS at h
  obtain ⟨o, h1, h2⟩ := bind_some h
  unfold m_L_markPageS_k1 at h2
  cases h2
  refine al.loop (fun s => s.2.2.length = a.length) (fun b => b.2.length = a.length) ?_ N _ rfl _ h1
  rintro ⟨k, i, v⟩ hv
  show al (m_L_markPageS_b1 N k i v) _
  unfold m_L_markPageS_b1
  repeat' (first | exact al.some hv | (refine al.cond (fun _ => ?_) (fun _ => ?_)) | (refine al.bind (fun _ _ => ?_)) | (refine al.some ?_; simpa only [List.length_set] using hv))
theorem len_L_markHeap (N : Nat) (a : I_Heap) (k : Int) (r : Int × List I_Page) (h : m_L_markHeap N a k = some r) : r.2.length = a.pages.length := by
  unfold m_L_markHeap at h
  obtain ⟨o, h1, h2⟩ := bind_some h
  cases h2
  exact len_L_markPageS N _ _ _ h1
section
variable {N : Nat} (hN : 100000000 ≤ N)
include hN
theorem toPageS_eq {a : List L_Page} (ha : a.length ≤ 4000000) (hp : ∀ p ∈ a, p.slots.length ≤ 4000000) : m_L_toPageS N a = some (a.map toPg) := by
  unfold m_L_toPageS
  have hm : mkM 24 (⟨[]⟩ : I_Page) (a.length : Int) = some (List.replicate a.length ⟨[]⟩) := by unfold mkM; rw [if_pos (by omega)]; simp
  rw [hm]
  show (loopM _ N _).bind _ = _
  rw [to_loop a toPg (List.replicate a.length ⟨[]⟩) (by simp) (by omega)]
  · rfl
  · intro i hi v hv
    unfold m_L_toPageS_b1
    rw [decide_eq_true (by show (i : Int) < _; omega), cond_true, ixI_nat hi]
    simp only [Option.bind_some, toPage_eq hN (hp _ (List.getElem_mem hi)), ixI_nat (show i < v.length by omega), chk_eq (show (-9223372036854775808 : Int) ≤ (i : Int) + 1 ∧ (i : Int) + 1 ≤ 9223372036854775807 by omega)]
    rfl
  · intro v
    unfold m_L_toPageS_b1
    rw [decide_eq_false (by show ¬ (a.length : Int) < _; omega)]; rfl
theorem toHeap_eq {a : L_Heap} (ha : a.pages.length ≤ 4000000) (hp : ∀ p ∈ a.pages, p.slots.length ≤ 4000000) : m_L_toHeap N a = some ⟨a.pages.map toPg⟩ := by
  unfold m_L_toHeap; rw [toPageS_eq hN ha hp]; rfl
theorem eqPageS_self {a : List I_Page} (ha : a.length ≤ 5000000) (hp : ∀ p ∈ a, p.slots.length ≤ 5000000) : m_L_eqPageS N a a = some true := by
  unfold m_L_eqPageS
  rw [decide_eq_true rfl, cond_true]
  have h := ok.up (body := fun s : Int => m_L_eqPageS_b1 N a a s) a.length (fun _ => True) (fun o => o = .inl ()) (N := N) (by omega) ?_ ?_
  · obtain ⟨o, e, rfl⟩ := h; rw [e]; rfl
  · intro i hi _
    show ok (m_L_eqPageS_b1 N a a i) _
    unfold m_L_eqPageS_b1
    refine ok.ift (by omega) (ok.eq (ixI_nat hi) (ok.eq (ixI_nat hi) (ok.eq (eqPage_self hN (hp _ (List.getElem_mem hi))) (ok.bt rfl (ok.chk (by omega) (ok.some ⟨rfl, trivial⟩))))))
  · intro _
    show ok (m_L_eqPageS_b1 N a a _) _
    unfold m_L_eqPageS_b1
    exact ok.iff (by omega) (ok.some rfl)
theorem eqHeap_self {a : I_Heap} (ha : a.pages.length ≤ 5000000) (hp : ∀ p ∈ a.pages, p.slots.length ≤ 5000000) : m_L_eqHeap N a a = some true := by
  unfold m_L_eqHeap; rw [eqPageS_self hN ha hp]; rfl
theorem markPageS_eq {a : List I_Page} (ha : a.length ≤ 5000000) (hc : cL cPg a ≤ 9000000) : m_L_markPageS N a 1 = some (1 + ((cL cPg a : Nat) : Int), mkL (mkPg N) cPg a 1) := by
  unfold m_L_markPageS
  rw [mark_loop (mkPg N) cPg a 1 (by omega)]
  · rfl
  · intro i hi v hv hx
    obtain ⟨hi', hx⟩ := List.getElem?_eq_some_iff.1 hx
    have h1 := cL_take_le cPg a (i + 1)
    rw [cL_take cPg hi] at h1
    generalize hk : cL cPg (a.take i) = c0 at h1 ⊢
    have h2 : cPg a[i] = 2 * a[i].slots.length := rfl
    have hs : a[i].slots.length ≤ 5000000 := by omega
    have hx' : ixI v (i : Int) = some a[i] := by rw [ixI_nat hi', hx]
    show m_L_markPageS_b1 N (1 + ((c0 : Nat) : Int)) i v = _
    refine ok.val ?_
    unfold m_L_markPageS_b1
    refine ok.ift (by omega) (ok.eq hx' (ok.eq (markSlotS_eq hN hs (by omega)) (ok.chk (by omega) (ok.some ?_))))
    show Sum.inl (1 + (c0 : Int) + ((2 * a[i].slots.length : Nat) : Int), (i : Int) + 1, v.set i (mkPg N a[i] (1 + (c0 : Int)))) = _
    rw [h2]
  · intro k v hv
    unfold m_L_markPageS_b1
    rw [decide_eq_false (by show ¬ (a.length : Int) < (v.length : Int); omega)]; rfl
theorem heldPageS_eq {a : List I_Page} (ha : a.length ≤ 5000000) (hc : cL cPg a ≤ 9000000) : m_L_heldPageS N (mkL (mkPg N) cPg a 1) 1 = some (1 + ((cL cPg a : Nat) : Int)) := by
  unfold m_L_heldPageS
  rw [held_loop (mkPg N) cPg a 1 (by omega)]
  · rfl
  · intro i hi hx
    obtain ⟨hi', hx⟩ := List.getElem?_eq_some_iff.1 hx
    have h1 := cL_take_le cPg a (i + 1)
    rw [cL_take cPg hi] at h1
    generalize hk : cL cPg (a.take i) = c0 at h1 hx ⊢
    have h2 : cPg a[i] = 2 * a[i].slots.length := rfl
    have hs : a[i].slots.length ≤ 5000000 := by omega
    have hx' : ixI (mkL (mkPg N) cPg a 1) (i : Int) = some (mkPg N a[i] (1 + ((c0 : Nat) : Int))) := by rw [ixI_nat hi', hx]
    have hl := mkL_len (mkPg N) cPg a 1
    show m_L_heldPageS_b1 N (mkL (mkPg N) cPg a 1) (1 + ((c0 : Nat) : Int)) i = _
    refine ok.val ?_
    unfold m_L_heldPageS_b1
    refine ok.ift (by omega) (ok.eq hx' ?_)
    refine ok.eq (heldSlotS_eq hN hs (by omega)) ?_
    refine ok.iff (by omega) (ok.chk (by omega) (ok.some rfl))
  · intro k
    unfold m_L_heldPageS_b1
    have hl := mkL_len (mkPg N) cPg a 1
    rw [decide_eq_false (by show ¬ (a.length : Int) < _; omega)]; rfl
theorem markHeap_eq {a : I_Heap} (ha : a.pages.length ≤ 5000000) (hc : cL cPg a.pages ≤ 9000000) : m_L_markHeap N a 1 = some (1 + ((cL cPg a.pages : Nat) : Int), mkL (mkPg N) cPg a.pages 1) := by
  unfold m_L_markHeap; rw [markPageS_eq hN ha hc]; rfl
theorem heldHeap_eq {a : I_Heap} (ha : a.pages.length ≤ 5000000) (hc : cL cPg a.pages ≤ 9000000) : m_L_heldHeap N ⟨mkL (mkPg N) cPg a.pages 1⟩ 1 = some (1 + ((cL cPg a.pages : Nat) : Int)) := by
  unfold m_L_heldHeap; rw [heldPageS_eq hN ha hc]
  refine ok.val ?_
  refine ok.bs (ok.iff (by omega) (ok.some rfl))
omit hN in
theorem eqRid_self (a : I_Rid) : m_L_eqRid N a a = some true := by
  unfold m_L_eqRid
  simp
theorem szSlotS_ok {a : List L_Slot} (ha : a.length ≤ 9223372036854775807) (hd : ∀ s ∈ a, s.data.size ≤ 9223372036854775807) {l0 : Int} (h0 : 0 ≤ l0 ∧ l0 ≤ 1048576) : ok (m_L_szSlotS N a l0) fun r => r < 0 ∨ (0 ≤ r ∧ r ≤ l0 - (a.length : Int) ∧ ∀ s ∈ a, s.data.size ≤ 1048576) := by
  unfold m_L_szSlotS
  refine ok.chk (by omega) ?_
  refine ok.ite (fun _ => ok.some (.inl (by omega))) fun hc => ?_
  have hl : a.length ≤ 1048576 := by omega
  refine ok.call (P := fun o => match o with | .inl r => 0 ≤ r ∧ r ≤ l0 - (a.length : Int) ∧ (∀ s ∈ a, s.data.size ≤ 1048576) | .inr r => r < 0) (ok.each a.length (fun i s => s.2 = (i : Int) ∧ 0 ≤ s.1 ∧ s.1 ≤ l0 - (a.length : Int) ∧ ∀ k (h : k < a.length), k < i → a[k].data.size ≤ 1048576) _ ?_ ?_ N 0 _ (Nat.zero_le _) ⟨rfl, by dsimp only; omega, by dsimp only; omega, fun k _ h => by omega⟩ (by omega)) ?_
  · rintro i ⟨lft, j⟩ hi ⟨rfl, h1, h2, h3⟩
    dsimp only at h1 h2 ⊢
    have hs := hd _ (List.getElem_mem hi)
    unfold m_L_szSlotS_b1 m_L_szSlot
    refine ok.ift (by omega) (ok.eq (ixI_nat hi) ?_)
    refine ok.call (P := fun r => r < 0 ∨ (0 ≤ r ∧ r = lft - (a[i].data.size : Int))) ?_ fun r hr => ?_
    · refine ok.chk (by omega) (ok.ite (fun _ => ok.some (.inl (by omega))) fun _ => ok.some (.inr (by omega)))
    · refine ok.ite (fun _ => ok.some (by omega)) fun _ => ok.chk (by omega) (ok.some ⟨rfl, by dsimp only; omega, by dsimp only; omega, fun k h4 h5 => ?_⟩)
      rcases Nat.lt_succ_iff_lt_or_eq.1 h5 with h6 | h6
      · exact h3 k h4 h6
      · subst h6; omega
  · rintro ⟨lft, j⟩ ⟨rfl, h1, h2, h3⟩
    dsimp only at h1 h2 ⊢
    unfold m_L_szSlotS_b1
    refine ok.iff (by omega) (ok.some ?_)
    refine ⟨h1, h2, fun s hs => ?_⟩
    obtain ⟨k, hk, rfl⟩ := List.getElem_of_mem hs
    exact h3 k hk hk
  · rintro (r | r) hr
    · exact ok.some (.inr hr)
    · exact ok.some (.inl hr)
theorem szHeap_ok {a : L_Heap} (ha : a.pages.length ≤ 9223372036854775807) (hd : ∀ p ∈ a.pages, p.slots.length ≤ 9223372036854775807 ∧ ∀ s ∈ p.slots, s.data.size ≤ 9223372036854775807) : ok (m_L_szHeap N a 1048576) fun r => r < 0 ∨ (a.pages.length ≤ 1048576 ∧ cL (fun p : L_Page => p.slots.length) a.pages ≤ 1048576 ∧ ∀ p ∈ a.pages, p.slots.length ≤ 1048576 ∧ ∀ s ∈ p.slots, s.data.size ≤ 1048576) := by
  unfold m_L_szHeap m_L_szPageS
  refine ok.call (P := fun r => r < 0 ∨ (a.pages.length ≤ 1048576 ∧ cL (fun p : L_Page => p.slots.length) a.pages ≤ 1048576 ∧ ∀ p ∈ a.pages, p.slots.length ≤ 1048576 ∧ ∀ s ∈ p.slots, s.data.size ≤ 1048576)) ?_ fun r h => ?_
  · refine ok.chk (by omega) ?_
    refine ok.ite (fun _ => ok.some (.inl (by omega))) fun hc => ?_
    have hl : a.pages.length ≤ 1048576 := by omega
    refine ok.call (P := fun o => match o with | .inl r => cL (fun p : L_Page => p.slots.length) a.pages ≤ 1048576 ∧ (∀ p ∈ a.pages, p.slots.length ≤ 1048576 ∧ ∀ s ∈ p.slots, s.data.size ≤ 1048576) | .inr r => r < 0) (ok.each a.pages.length (fun i s => s.2 = (i : Int) ∧ 0 ≤ s.1 ∧ s.1 ≤ 1048576 - ((cL (fun p : L_Page => p.slots.length) (a.pages.take i) : Nat) : Int) ∧ ∀ k (h : k < a.pages.length), k < i → a.pages[k].slots.length ≤ 1048576 ∧ ∀ s ∈ a.pages[k].slots, s.data.size ≤ 1048576) _ ?_ ?_ N 0 _ (Nat.zero_le _) ⟨rfl, by dsimp only; omega, by simp [cL]; omega, fun k _ h => by omega⟩ (by omega)) ?_
    · rintro i ⟨lft, j⟩ hi ⟨rfl, h1, h2, h3⟩
      dsimp only at h1 h2 ⊢
      have hs := hd _ (List.getElem_mem hi)
      unfold m_L_szPageS_b1 m_L_szPage
      refine ok.ift (by omega) (ok.eq (ixI_nat hi) ?_)
      refine ok.call (P := fun r => r < 0 ∨ (0 ≤ r ∧ r ≤ lft - (a.pages[i].slots.length : Int) ∧ ∀ s ∈ a.pages[i].slots, s.data.size ≤ 1048576)) ?_ fun r hr => ?_
      · refine ok.call (szSlotS_ok hN hs.1 hs.2 ⟨h1, by omega⟩) fun r hr => ?_
        exact ok.ite (fun _ => ok.some (.inl (by omega))) fun _ => ok.some hr
      · refine ok.ite (fun _ => ok.some (by omega)) fun hn => ?_
        have hr := hr.resolve_left hn
        refine ok.chk (by omega) (ok.some ⟨rfl, by dsimp only; omega, ?_, fun k h4 h5 => ?_⟩)
        · rw [cL_take _ hi]; dsimp only; omega
        rcases Nat.lt_succ_iff_lt_or_eq.1 h5 with h6 | h6
        · exact h3 k h4 h6
        · subst h6; exact ⟨by omega, hr.2.2⟩
    · rintro ⟨lft, j⟩ ⟨rfl, h1, h2, h3⟩
      rw [List.take_length] at h2
      dsimp only at h1 h2 ⊢
      unfold m_L_szPageS_b1
      refine ok.iff (by omega) (ok.some ?_)
      refine ⟨by omega, fun s hs => ?_⟩
      obtain ⟨k, hk, rfl⟩ := List.getElem_of_mem hs
      exact h3 k hk hk
    · rintro (r | r) hr
      · exact ok.some (.inr ⟨hl, hr⟩)
      · exact ok.some (.inl hr)
  · exact ok.ite (fun _ => ok.some (.inl (by omega))) fun _ => ok.some h
end
end V
end Go.Proofs.Ytmnjnkcooofgjaa
namespace Go.Proofs.Ytmnjnkcooofgjaa
namespace V
open Enc (enc)
set_option linter.unusedVariables false
set_option linter.unusedSimpArgs false
set_option maxHeartbeats 4000000
set_option maxRecDepth 100000
open Go.RowKit
attribute [local irreducible] thA inA FinA eL
end V
end Go.Proofs.Ytmnjnkcooofgjaa
namespace Go.Proofs.Ytmnjnkcooofgjaa
namespace V
open Enc (enc)
set_option linter.unusedVariables false
set_option linter.unusedSimpArgs false
set_option maxHeartbeats 4000000
set_option maxRecDepth 100000
open Go.RowKit
attribute [local irreducible] thA inA FinA eL
def m_L_FnExactHeapInsert (N : Nat) (p_aH : L_Heap) (p_aData : ByteArray) : Option (Bool) :=
  cond (decide ((1048576 : Int) < (p_aData.size : Int)))
    (some true)
    ((m_L_szHeap N p_aH (1048576 : Int)).bind fun r2 =>
    cond (decide (r2 < (0 : Int)))
      (some true)
      ((m_L_toHeap N p_aH).bind fun r5 =>
      (m_S_HeapInsert N r5 p_aData).bind fun r7 =>
      (m_L_toHeap N p_aH).bind fun r9 =>
      (m_I_HeapInsert N r9 p_aData).bind fun r11 =>
      (m_L_eqHeap N r11.1 r7.1).bind fun r13 =>
      cond r13
        ((m_L_eqRid N r11.2.1 r7.2.1).bind fun r16 =>
        cond r16
          (cond (r11.2.2 == r7.2.2)
            ((m_L_toHeap N p_aH).bind fun r20 =>
            (m_L_eqHeap N r9 r20).bind fun r22 =>
            cond r22
              ((m_L_markHeap N r9 (1 : Int)).bind fun r25 =>
              cond (decide (r25.1 < (0 : Int)))
                (some false)
                ((m_L_eqHeap N r11.1 r7.1).bind fun r28 =>
                cond r28
                  ((m_L_eqRid N r11.2.1 r7.2.1).bind fun r31 =>
                  cond r31
                    ((m_L_markHeap N r11.1 (1 : Int)).bind fun r34 =>
                    (m_L_heldHeap N (I_Heap.mk r34.2) (1 : Int)).bind fun r36 =>
                    cond (decide (r36 < (0 : Int)))
                      (some false)
                      (cond (decide (r36 = r34.1))
                        ((m_L_toHeap N p_aH).bind fun r40 =>
                        (m_I_HeapInsert N r40 p_aData).bind fun r42 =>
                        (m_L_eqHeap N r42.1 r7.1).bind fun r44 =>
                        cond r44
                          ((m_L_eqRid N r42.2.1 r7.2.1).bind fun r47 =>
                          cond r47
                            (cond (r42.2.2 == r7.2.2)
                              ((m_L_heldHeap N (I_Heap.mk r34.2) (1 : Int)).bind fun r51 =>
                              cond (decide (r51 < (0 : Int)))
                                (some false)
                                (cond (decide (r51 = r34.1))
                                  (some true)
                                  (some false)))
                              (some false))
                            (some false))
                          (some false))
                        (some false)))
                    (some false))
                  (some false)))
              (some false))
            (some false))
          (some false))
        (some false)))
end V
end Go.Proofs.Ytmnjnkcooofgjaa
