/- What putting, setting and clearing slots compute, in plain words. No condition. -/
import Derived.Test.YtoljdhdfijnjiaaPlPg
namespace Go.Proofs.Ytoljdhdfijnjiaa
namespace V
set_option linter.unusedVariables false
set_option linter.unusedSimpArgs false
set_option maxHeartbeats 1000000
abbrev noSlot : I_Slot := ⟨false, ByteArray.empty⟩
theorem noSlot_small : noSlot.data.size ≤ 1000000000 := by decide
/-- The number of the first slot that is free. -/
def freeAt (l : List I_Slot) : Nat := l.findIdx (fun s => !s.live)
theorem freeAt_le (l : List I_Slot) : freeAt l ≤ l.length := List.findIdx_le_length
theorem freeAt_live {l : List I_Slot} {k : Nat} (h : k < freeAt l) (hk : k < l.length) : l[k].live = true := by
  have := List.not_of_lt_findIdx h
  simpa using this
theorem freeAt_free {l : List I_Slot} (h : freeAt l < l.length) : (l[freeAt l]).live = false := by
  have this : (fun s : I_Slot => !s.live) (l[freeAt l]) = true := List.findIdx_getElem (w := h)
  cases hc : (l[freeAt l]).live with
  | false => rfl
  | true => simp [hc] at this
def withS (l : List I_Slot) (k : Nat) (s : I_Slot) : List I_Slot := if k < l.length then l.set k s else l ++ [s]
/-- How many slots there are up to the last live one below n. -/
def trimN (l : List I_Slot) : Nat → Nat
  | 0 => 0
  | n + 1 => match l[n]? with
    | some s => if s.live = true then n + 1 else trimN l n
    | none => trimN l n
theorem trimN_succ (l : List I_Slot) {n : Nat} (h : n < l.length) : trimN l (n + 1) = if l[n].live = true then n + 1 else trimN l n := by simp [trimN, List.getElem?_eq_getElem h]
def trimP (l : List I_Slot) : List I_Slot := l.take (trimN l l.length)
theorem trimN_le (l : List I_Slot) : ∀ n, trimN l n ≤ n
  | 0 => Nat.le_refl _
  | n + 1 => by
    unfold trimN
    have := trimN_le l n
    split
    · split <;> omega
    · omega
theorem trimN_last {l : List I_Slot} (h : lastL l) : trimN l l.length = l.length := by
  cases hl : l.length with
  | zero => rfl
  | succ n =>
    unfold trimN
    have hn : n < l.length := by omega
    rw [List.getElem?_eq_getElem hn]
    have := h l[n] (by rw [hl]; simp [List.getElem?_eq_getElem hn])
    simp [this]
theorem trimP_last {l : List I_Slot} (h : lastL l) : trimP l = l := by
  unfold trimP; rw [trimN_last h]; simp
theorem lastL_trim (l : List I_Slot) : ∀ n, n ≤ l.length → lastL (l.take (trimN l n))
  | 0, _ => by intro s h; simp [trimN] at h
  | n + 1, hn => by
    have hlt : n < l.length := by omega
    rw [trimN_succ l hlt]
    split
    · rename_i hc
      intro s h
      have hlen : (l.take (n + 1)).length - 1 = n := by simp; omega
      rw [hlen, List.getElem?_take, if_pos (by omega), List.getElem?_eq_getElem hlt] at h
      cases h; exact hc
    · exact lastL_trim l n (by omega)
theorem trimP_lastL (l : List I_Slot) : lastL (trimP l) := lastL_trim l _ (Nat.le_refl _)
theorem lastL_set {l : List I_Slot} (h : lastL l) {k : Nat} {x : I_Slot} (hx : x.live = true) : lastL (l.set k x) := by
  intro s hs
  rw [List.length_set, List.getElem?_set] at hs
  split at hs
  · split at hs
    · cases hs; exact hx
    · cases hs
  · exact h s hs
theorem lastL_snoc {l : List I_Slot} {x : I_Slot} (hx : x.live = true) : lastL (l ++ [x]) := by
  intro s hs
  rw [List.getElem?_append_right (by simp)] at hs
  simp at hs; subst hs; exact hx
theorem lastL_with {l : List I_Slot} (h : lastL l) {k : Nat} {x : I_Slot} (hx : x.live = true) : lastL (withS l k x) := by
  unfold withS; split
  · exact lastL_set h hx
  · exact lastL_snoc hx
noncomputable def putP (p : I_Page) (d : ByteArray) : I_Page × Int × Bool :=
  if vP p then (if vP ⟨withS p.slots (freeAt p.slots) ⟨true, d⟩⟩ then (⟨withS p.slots (freeAt p.slots) ⟨true, d⟩⟩, (freeAt p.slots : Int), true) else (⟨[]⟩, -1, false)) else (⟨[]⟩, -1, false)
/-- A live slot of a valid page. -/
def lvP (p : I_Page) (k : Int) : Prop := vP p ∧ 0 ≤ k ∧ ∃ s, p.slots[k.toNat]? = some s ∧ s.live = true
noncomputable instance (p : I_Page) (k : Int) : Decidable (lvP p k) := Classical.propDecidable _
noncomputable def setP (p : I_Page) (k : Int) (d : ByteArray) : I_Page × Bool :=
  if lvP p k then (if vP ⟨p.slots.set k.toNat ⟨true, d⟩⟩ then (⟨p.slots.set k.toNat ⟨true, d⟩⟩, true) else (⟨[]⟩, false)) else (⟨[]⟩, false)
noncomputable def clearP (p : I_Page) (k : Int) : I_Page × Bool := if lvP p k then (⟨trimP (p.slots.set k.toNat noSlot)⟩, true) else (⟨[]⟩, false)
noncomputable def getP (p : I_Page) (k : Int) : ByteArray × Bool := if lvP p k then (((p.slots[k.toNat]?).getD noSlot).data, true) else (ByteArray.empty, false)
noncomputable def freeP (p : I_Page) : Int := if vP p then 100 - usedP p.slots else -1
theorem lvP_lt {p : I_Page} {k : Int} (h : lvP p k) : k.toNat < p.slots.length := by
  obtain ⟨_, _, s, h, _⟩ := h
  exact (List.getElem?_eq_some_iff.1 h).1
section
variable {N : Nat} (hN : 100000000 ≤ N)
include hN
theorem freeI {p : I_Page} (h : PB p.slots) : m_I_PageFree N p = some (freeP p) := by
  unfold m_I_PageFree freeP
  have hu := h.used
  rw [validPI hN h, usedI hN h]
  by_cases hv : vP p
  · simp [hv, chk_eq (show -9223372036854775808 ≤ 100 - usedP p.slots ∧ 100 - usedP p.slots ≤ 9223372036854775807 by omega)]
  · simp [hv]
theorem freeS {p : I_Page} (h : PB p.slots) : m_S_PageFree N p = some (freeP p) := by
  unfold m_S_PageFree freeP
  have hu := h.used
  rw [validPS hN h, usedS hN h]
  by_cases hv : vP p
  · simp [hv, chk_eq (show -9223372036854775808 ≤ 100 - usedP p.slots ∧ 100 - usedP p.slots ≤ 9223372036854775807 by omega)]
  · simp [hv]
omit hN in
theorem cloneP {p : I_Page} (h : PB p.slots) : m_I_Page_clone N p = some p := by
  unfold m_I_Page_clone m_slices_Clone_I_Slot
  have := h.len
  rw [appM_eq (by simp; omega)]; rfl
theorem idxI {p : I_Page} (h : PB p.slots) : m_slices_IndexFunc_I_Slot N p.slots (fun a0 => m_I_PutSlot_1 N a0) = some (if freeAt p.slots < p.slots.length then (freeAt p.slots : Int) else -1) := by
  refine ok.val ?_
  unfold m_slices_IndexFunc_I_Slot
  have hl := h.len
  have hf := freeAt_le p.slots
  refine ok.call (P := fun o => match o with | .inl _ => freeAt p.slots = p.slots.length | .inr v => freeAt p.slots < p.slots.length ∧ v = (freeAt p.slots : Int)) (ok.each p.slots.length (fun i s => s = (i : Int) ∧ i ≤ freeAt p.slots) _ ?_ ?_ N 0 0 (Nat.zero_le _) ⟨rfl, Nat.zero_le _⟩ (by omega)) ?_
  · rintro i _ hi ⟨rfl, hg⟩
    have hne : freeAt p.slots = i → p.slots[i].live = false := fun e => by subst e; exact freeAt_free hi
    have hlt : i < freeAt p.slots → p.slots[i].live = true := fun e => freeAt_live e hi
    unfold m_slices_IndexFunc_I_Slot_b1 m_I_PutSlot_1
    repeat' (first | (with_reducible refine ok.some ?_) | ((with_reducible refine ok.eq (ixI_nat hi) ?_)) | (with_reducible refine ok.ite (fun hc => ?_) (fun hc => ?_)) | (with_reducible refine ok.cond (fun hc => ?_) (fun hc => ?_)) | (with_reducible refine ok.chk (by omega) ?_) | (with_reducible refine ok.bs ?_) | (with_reducible refine ok.remM (by omega) (fun _ hq => ?_)) | (with_reducible refine ok.quoM (by omega) (fun _ hq => ?_)) | (with_reducible refine ok.ix (by omega) (by omega) (fun q hq he => ?_)))
    · rename_i hc
      have : i = freeAt p.slots := by
        rcases Nat.lt_or_ge i (freeAt p.slots) with h1 | h1
        · rw [hlt h1] at hc; cases hc
        · omega
      exact ⟨by omega, by omega⟩
    · rename_i hc
      refine ⟨by simp, ?_⟩
      rcases Nat.lt_or_ge i (freeAt p.slots) with h1 | h1
      · exact h1
      · rw [hne (by omega)] at hc; cases hc
    · omega
  · rintro _ ⟨rfl, hg⟩
    unfold m_slices_IndexFunc_I_Slot_b1
    repeat' (first | (with_reducible refine ok.some ?_) | (with_reducible refine ok.iff (by omega) ?_) | (with_reducible refine ok.ite (fun hc => ?_) (fun hc => ?_)) | (with_reducible refine ok.cond (fun hc => ?_) (fun hc => ?_)) | (with_reducible refine ok.chk (by omega) ?_) | (with_reducible refine ok.bs ?_) | (with_reducible refine ok.remM (by omega) (fun _ hq => ?_)) | (with_reducible refine ok.quoM (by omega) (fun _ hq => ?_)) | (with_reducible refine ok.ix (by omega) (by omega) (fun q hq he => ?_)))
    show _ = _
    omega
  · rintro (u | r) hq
    · show ok (m_slices_IndexFunc_I_Slot_k1 N _) _
      unfold m_slices_IndexFunc_I_Slot_k1
      refine ok.some ?_
      have hq : freeAt p.slots = p.slots.length := hq
      rw [if_neg (by omega)]
    · refine ok.some ?_
      rw [if_pos hq.1]; exact hq.2
omit hN in
theorem PB.with {l : List I_Slot} (h : PB l) (hl : l.length ≤ 3000000) (k : Nat) {x : I_Slot} (hx : x.data.size ≤ 1000000000) : PB (withS l k x) := by
  unfold withS; split
  · exact h.set _ hx
  · exact h.snoc hl hx
theorem putI {p : I_Page} {d : ByteArray} (h : PB p.slots) (hd : d.size ≤ 1000000000) : m_I_PutSlot N p d = some (putP p d) := by
  unfold m_I_PutSlot putP
  rw [validPI hN h, cloneP h]
  by_cases hv : vP p
  case neg => simp [hv]
  have hv8 := hv.1
  simp only [Option.bind_some, decide_eq_true hv, cond_true, if_pos hv, idxI hN h]
  by_cases hf : freeAt p.slots < p.slots.length
  · have h1 : ¬ ((freeAt p.slots : Int) < 0) := by omega
    have hq : PB (p.slots.set (freeAt p.slots) ⟨true, d⟩) := h.set _ hd
    have h2 : withS p.slots (freeAt p.slots) ⟨true, d⟩ = p.slots.set (freeAt p.slots) ⟨true, d⟩ := if_pos hf
    simp only [if_pos hf, decide_eq_false h1, cond_false, ixI_nat hf, Option.bind_some, Int.toNat_natCast, h2]
    rw [validPI hN (p := ⟨p.slots.set (freeAt p.slots) ⟨true, d⟩⟩) hq]
    by_cases hw : vP ⟨p.slots.set (freeAt p.slots) ⟨true, d⟩⟩ <;> simp [hw]
  · have h1 : ((-1 : Int) < 0) := by omega
    have hfe : freeAt p.slots = p.slots.length := by have := freeAt_le p.slots; omega
    have h2 : withS p.slots (freeAt p.slots) ⟨true, d⟩ = p.slots ++ [⟨true, d⟩] := if_neg hf
    have hq : PB (p.slots ++ [⟨true, d⟩]) := h.snoc (by omega) hd
    have h3 : (p.slots ++ [(⟨false, ByteArray.empty⟩ : I_Slot)]).set p.slots.length ⟨true, d⟩ = p.slots ++ [⟨true, d⟩] := by
      rw [List.set_append_right _ _ (Nat.le_refl _)]; simp
    simp only [if_neg hf, decide_eq_true h1, cond_true, h2]
    rw [appM_eq (by simp; omega)]
    simp only [Option.bind_some, Int.toNat_natCast, h3]
    rw [ixI_nat (by simp)]
    simp only [Option.bind_some]
    rw [validPI hN (p := I_Page.mk (p.slots ++ [I_Slot.mk true d])) hq]
    by_cases hw : vP ⟨p.slots ++ [⟨true, d⟩]⟩ <;> simp [hw, hfe]
/-- The loops that strike free slots at the end. -/
theorem trimS1 {l : List I_Slot} (h : PB l) : loopM (β := List I_Slot) (fun s : List I_Slot => m_S_withSlot_b1 N s) N l = some (trimP l) := by
  have hl := h.len
  have key := loopM_fun (body := fun s : List I_Slot => m_S_withSlot_b1 N s) (fun s => ∃ n, n ≤ l.length ∧ s = l.take n ∧ trimN l n = trimN l l.length) (fun s => s.length) (fun _ => trimP l) ?_ N l ⟨l.length, Nat.le_refl _, by simp, rfl⟩ (by omega)
  · exact key
  rintro _ ⟨n, hn, rfl, ht⟩
  have hlen : (l.take n).length = n := by simp; omega
  unfold m_S_withSlot_b1
  rw [hlen]
  cases n with
  | zero => exact ⟨.inr [], by simp, by unfold trimP; rw [← ht]; rfl⟩
  | succ n =>
    have hlt : n < l.length := by omega
    have hx : ixI (l.take (n + 1)) (((n + 1 : Nat) : Int) - 1) = some l[n] := by
      rw [ixI_eq (n := n) (by omega) (by rw [hlen]; omega)]; simp
    rw [decide_eq_true (show (0 : Int) < ((n + 1 : Nat) : Int) by omega), cond_true, chk_eq (by omega)]
    simp only [Option.bind_some, hx]
    rw [trimN_succ l hlt] at ht
    cases hc : l[n].live with
    | true =>
      rw [if_pos hc] at ht
      refine ⟨.inr (l.take (n + 1)), by simp, ?_⟩
      unfold trimP; rw [← ht]
    | false =>
      rw [if_neg (by rw [hc]; simp)] at ht
      refine ⟨.inl (l.take n), ?_, ⟨n, by omega, rfl, ht⟩, by simp; omega, trivial⟩
      rw [subM_eq (by rw [hlen]; omega)]
      simp [List.take_take, show ((n : Int) + 1 - 1).toNat = n by omega]
theorem trimS2 {l : List I_Slot} (h : PB l) : loopM (β := List I_Slot) (fun s : List I_Slot => m_S_withSlot_b2 N s) N l = some (trimP l) := by
  have : (fun s : List I_Slot => m_S_withSlot_b2 N s) = fun s : List I_Slot => m_S_withSlot_b1 N s := rfl
  rw [this]; exact trimS1 hN h
omit hN in
theorem PB.trim {l : List I_Slot} (h : PB l) : PB (trimP l) := h.take _
theorem withS_eq {p : I_Page} {k : Nat} {s : I_Slot} (h : PB p.slots) (hl : p.slots.length ≤ 3000000) (hs : s.data.size ≤ 1000000000) (hk : k ≤ p.slots.length) : m_S_withSlot N p (k : Int) s = some ⟨trimP (withS p.slots k s)⟩ := by
  unfold m_S_withSlot
  have hq := h.with hl k hs
  rw [appM_eq (by simp; omega)]
  simp only [List.nil_append, Option.bind_some]
  by_cases hk' : k < p.slots.length
  · have h2 : withS p.slots k s = p.slots.set k s := if_pos hk'
    rw [h2] at hq
    rw [decide_eq_false (by omega), cond_false, ixI_nat hk']
    simp only [Option.bind_some, Int.toNat_natCast, trimS2 hN hq, h2]
    unfold m_S_withSlot_k2
    have := hq.trim.len
    rw [appM_eq (by simp; omega)]; rfl
  · have h2 : withS p.slots k s = p.slots ++ [s] := if_neg hk'
    rw [h2] at hq
    rw [decide_eq_true (by omega), cond_true, appM_eq (by simp; omega)]
    simp only [Option.bind_some, trimS1 hN hq, h2]
    unfold m_S_withSlot_k1
    have := hq.trim.len
    rw [appM_eq (by simp; omega)]; rfl
theorem putS {p : I_Page} {d : ByteArray} (h : PB p.slots) (hd : d.size ≤ 1000000000) : m_S_PutSlot N p d = some (putP p d) := by
  unfold m_S_PutSlot putP
  rw [validPS hN h]
  by_cases hv : vP p
  case neg => simp [hv]
  have hv8 := hv.1
  have hf := freeAt_le p.slots
  simp only [Option.bind_some, decide_eq_true hv, cond_true, if_pos hv]
  have hloop : loopM (β := Int) (fun s : Int => m_S_PutSlot_b1 N p s) N (0 : Int) = some (freeAt p.slots : Int) := by
    refine ok.val ?_
    refine ok.each p.slots.length (fun i s => s = (i : Int) ∧ i ≤ freeAt p.slots) _ ?_ ?_ N 0 0 (Nat.zero_le _) ⟨rfl, Nat.zero_le _⟩ (by omega)
    · rintro i _ hi ⟨rfl, hg⟩
      have hne : freeAt p.slots = i → p.slots[i].live = false := fun e => by subst e; exact freeAt_free hi
      have hlt : i < freeAt p.slots → p.slots[i].live = true := fun e => freeAt_live e hi
      unfold m_S_PutSlot_b1
      repeat' (first | (with_reducible refine ok.some ?_) | ((with_reducible refine ok.eq (ixI_nat hi) ?_)) | (with_reducible refine ok.ite (fun hc => ?_) (fun hc => ?_)) | (with_reducible refine ok.cond (fun hc => ?_) (fun hc => ?_)) | (with_reducible refine ok.chk (by omega) ?_) | (with_reducible refine ok.bs ?_) | (with_reducible refine ok.remM (by omega) (fun _ hq => ?_)) | (with_reducible refine ok.quoM (by omega) (fun _ hq => ?_)) | (with_reducible refine ok.ix (by omega) (by omega) (fun q hq he => ?_)))
      · refine ⟨by simp, ?_⟩
        rcases Nat.lt_or_ge i (freeAt p.slots) with h1 | h1
        · exact h1
        · rw [hne (by omega)] at hc; cases hc
      · show _ = _
        rcases Nat.lt_or_ge i (freeAt p.slots) with h1 | h1
        · rw [hlt h1] at hc; cases hc
        · omega
      · omega
    · rintro _ ⟨rfl, hg⟩
      unfold m_S_PutSlot_b1
      repeat' (first | (with_reducible refine ok.some ?_) | (with_reducible refine ok.iff (by omega) ?_) | (with_reducible refine ok.ite (fun hc => ?_) (fun hc => ?_)) | (with_reducible refine ok.cond (fun hc => ?_) (fun hc => ?_)) | (with_reducible refine ok.chk (by omega) ?_) | (with_reducible refine ok.bs ?_) | (with_reducible refine ok.remM (by omega) (fun _ hq => ?_)) | (with_reducible refine ok.quoM (by omega) (fun _ hq => ?_)) | (with_reducible refine ok.ix (by omega) (by omega) (fun q hq he => ?_)))
      show _ = _
      omega
  rw [hloop]
  show m_S_PutSlot_k1 N p d (freeAt p.slots : Int) = _
  unfold m_S_PutSlot_k1
  have hlw : lastL (withS p.slots (freeAt p.slots) ⟨true, d⟩) := lastL_with hv.2.2.1 rfl
  rw [withS_eq hN h (by omega) hd hf, trimP_last hlw]
  simp only [Option.bind_some]
  rw [validPS hN (p := ⟨withS p.slots (freeAt p.slots) ⟨true, d⟩⟩) (h.with (by omega) _ hd)]
  by_cases hw : vP ⟨withS p.slots (freeAt p.slots) ⟨true, d⟩⟩ <;> simp [hw]
omit hN in
theorem liveI {p : I_Page} {k : Int} (hv : vP p) : m_I_Page_live N p k = some (decide (lvP p k)) := by
  refine bool_eq ?_
  unfold m_I_Page_live
  repeat' (first | (with_reducible refine ok.some ?_) | (with_reducible refine ok.ite (fun hc => ?_) (fun hc => ?_)) | (with_reducible refine ok.cond (fun hc => ?_) (fun hc => ?_)) | (with_reducible refine ok.chk (by omega) ?_) | (with_reducible refine ok.bs ?_) | (with_reducible refine ok.remM (by omega) (fun _ hq => ?_)) | (with_reducible refine ok.quoM (by omega) (fun _ hq => ?_)) | (with_reducible refine ok.ix (by omega) (by omega) (fun q hq he => ?_)))
  · constructor
    · intro h; exact ⟨hv, by omega, p.slots[q], by rw [show k.toNat = q by omega]; exact List.getElem?_eq_getElem hq, h⟩
    · rintro ⟨_, _, s, hs, hl⟩
      have : k.toNat = q := by omega
      rw [this, List.getElem?_eq_getElem hq] at hs; cases hs; exact hl
  · refine ⟨fun h => (by cases h), fun h => ?_⟩
    have := lvP_lt h; omega
  · refine ⟨fun h => (by cases h), fun h => ?_⟩
    have := h.2.1; omega
theorem liveS {p : I_Page} {k : Int} (h : PB p.slots) : m_S_live N p k = some (decide (lvP p k)) := by
  refine bool_eq ?_
  unfold m_S_live
  have hl := h.len
  repeat' (first | (with_reducible refine ok.some ?_) | ((with_reducible refine ok.eq (validPS hN h) ?_)) | ((with_reducible refine ok.eq (inRange_eq N _ _ _) ?_)) | (with_reducible refine ok.ite (fun hc => ?_) (fun hc => ?_)) | (with_reducible refine ok.cond (fun hc => ?_) (fun hc => ?_)) | (with_reducible refine ok.chk (by omega) ?_) | (with_reducible refine ok.bs ?_) | (with_reducible refine ok.remM (by omega) (fun _ hq => ?_)) | (with_reducible refine ok.quoM (by omega) (fun _ hq => ?_)) | (with_reducible refine ok.ix (by omega) (by omega) (fun q hq he => ?_)))
  · have hv : vP p := by assumption
    constructor
    · intro h; exact ⟨hv, by omega, p.slots[q], by rw [show k.toNat = q by omega]; exact List.getElem?_eq_getElem hq, h⟩
    · rintro ⟨_, _, s, hs, hl⟩
      have : k.toNat = q := by omega
      rw [this, List.getElem?_eq_getElem hq] at hs; cases hs; exact hl
  · refine ⟨fun h => (by cases h), fun h => ?_⟩
    have := lvP_lt h; have := h.2.1; omega
  · exact ⟨fun h => (by cases h), fun h => (hc h.1).elim⟩
theorem setI {p : I_Page} {k : Int} {d : ByteArray} (h : PB p.slots) (hd : d.size ≤ 1000000000) : m_I_SetSlot N p k d = some (setP p k d) := by
  unfold m_I_SetSlot setP
  rw [validPI hN h, cloneP h]
  by_cases hv : vP p
  case neg =>
    have : ¬ lvP p k := fun h => hv h.1
    simp [hv, this]
  rw [liveI hv]
  by_cases hk : lvP p k
  case neg => simp [hv, hk]
  have hlt := lvP_lt hk
  obtain ⟨_, h0, s, hs, hl⟩ := hk
  have hk : lvP p k := ⟨hv, h0, s, hs, hl⟩
  have hse : p.slots[k.toNat] = s := by rw [List.getElem?_eq_getElem hlt] at hs; exact Option.some.inj hs
  simp only [Option.bind_some, decide_eq_true hv, decide_eq_true hk, cond_true, if_pos hk]
  rw [ixI_eq (n := k.toNat) (by omega) hlt]
  simp only [Option.bind_some, hse, hl]
  rw [validPI hN (p := ⟨p.slots.set k.toNat ⟨true, d⟩⟩) (h.set _ hd)]
  by_cases hw : vP ⟨p.slots.set k.toNat ⟨true, d⟩⟩ <;> simp [hw]
theorem setS {p : I_Page} {k : Int} {d : ByteArray} (h : PB p.slots) (hd : d.size ≤ 1000000000) : m_S_SetSlot N p k d = some (setP p k d) := by
  unfold m_S_SetSlot setP
  rw [liveS hN h]
  by_cases hk : lvP p k
  case neg => simp [hk]
  have hlt := lvP_lt hk
  have hv := hk.1
  have hv8 := hv.1
  have hw : withS p.slots k.toNat ⟨true, d⟩ = p.slots.set k.toNat ⟨true, d⟩ := if_pos hlt
  have := withS_eq hN (k := k.toNat) (s := ⟨true, d⟩) h (by omega) hd (by omega)
  rw [show ((k.toNat : Nat) : Int) = k from Int.toNat_of_nonneg hk.2.1, hw, trimP_last (lastL_set hv.2.2.1 rfl)] at this
  simp only [Option.bind_some, decide_eq_true hk, cond_true, if_pos hk, this]
  rw [validPS hN (p := ⟨p.slots.set k.toNat ⟨true, d⟩⟩) (h.set _ hd)]
  by_cases hw : vP ⟨p.slots.set k.toNat ⟨true, d⟩⟩ <;> simp [hw]
theorem clearI {p : I_Page} {k : Int} (h : PB p.slots) : m_I_ClearSlot N p k = some (clearP p k) := by
  unfold m_I_ClearSlot clearP
  rw [validPI hN h, cloneP h]
  by_cases hv : vP p
  case neg =>
    have : ¬ lvP p k := fun h => hv h.1
    simp [hv, this]
  rw [liveI hv]
  by_cases hk : lvP p k
  case neg => simp [hv, hk]
  have hlt := lvP_lt hk
  have h0 := hk.2.1
  simp only [Option.bind_some, decide_eq_true hv, decide_eq_true hk, cond_true, if_pos hk]
  rw [ixI_eq (n := k.toNat) (by omega) hlt]
  simp only [Option.bind_some]
  have hlen : (p.slots.set k.toNat noSlot).length = p.slots.length := by simp
  have hl := h.len
  generalize hg : p.slots.set k.toNat noSlot = l at hlen ⊢
  have hloop : loopM (β := Int) (fun s : Int => m_I_ClearSlot_b1 N k p s) N (p.slots.length : Int) = some (trimN l l.length : Int) := by
    refine loopM_fun (fun s => ∃ n : Nat, n ≤ l.length ∧ s = (n : Int) ∧ trimN l n = trimN l l.length) (fun s => s.toNat) (fun _ => (trimN l l.length : Int)) ?_ N _ ⟨l.length, Nat.le_refl _, by rw [hlen], rfl⟩ (by omega)
    rintro _ ⟨n, hn, rfl, ht⟩
    unfold m_I_ClearSlot_b1
    rw [hg]
    cases n with
    | zero => exact ⟨.inr 0, by simp, by rw [← ht]; rfl⟩
    | succ n =>
      have hlt : n < l.length := by omega
      have hx : ixI l (((n + 1 : Nat) : Int) - 1) = some l[n] := ixI_eq (n := n) (by omega) hlt
      rw [decide_eq_true (show (0 : Int) < ((n + 1 : Nat) : Int) by omega), cond_true, chk_eq (by omega)]
      simp only [Option.bind_some, hx]
      rw [trimN_succ l hlt] at ht
      cases hc : l[n].live with
      | true =>
        rw [if_pos hc] at ht
        exact ⟨.inr ((n + 1 : Nat) : Int), by simp, by rw [← ht]⟩
      | false =>
        rw [if_neg (by rw [hc]; simp)] at ht
        exact ⟨.inl (n : Int), by simp, ⟨n, by omega, rfl, ht⟩, by omega, trivial⟩
  rw [hloop]
  show m_I_ClearSlot_k1 N k p _ = _
  unfold m_I_ClearSlot_k1
  have hle := trimN_le l l.length
  rw [hg, subM_eq (by omega)]
  simp [trimP]
theorem clearS {p : I_Page} {k : Int} (h : PB p.slots) : m_S_ClearSlot N p k = some (clearP p k) := by
  unfold m_S_ClearSlot clearP
  rw [liveS hN h]
  by_cases hk : lvP p k
  case neg => simp [hk]
  have hlt := lvP_lt hk
  have hv8 := hk.1.1
  have hw : withS p.slots k.toNat noSlot = p.slots.set k.toNat noSlot := if_pos hlt
  have := withS_eq hN (k := k.toNat) (s := noSlot) h (by omega) noSlot_small (by omega)
  rw [show ((k.toNat : Nat) : Int) = k from Int.toNat_of_nonneg hk.2.1, hw] at this
  simp only [Option.bind_some, decide_eq_true hk, cond_true, if_pos hk, this]
theorem getI {p : I_Page} {k : Int} (h : PB p.slots) : m_I_GetSlot N p k = some (getP p k) := by
  unfold m_I_GetSlot getP
  rw [validPI hN h]
  by_cases hv : vP p
  case neg =>
    have : ¬ lvP p k := fun h => hv h.1
    simp [hv, this]
  rw [liveI hv]
  by_cases hk : lvP p k
  case neg => simp [hv, hk]
  have hlt := lvP_lt hk
  have h0 := hk.2.1
  simp only [Option.bind_some, decide_eq_true hv, decide_eq_true hk, cond_true, if_pos hk]
  rw [ixI_eq (n := k.toNat) (by omega) hlt]
  simp [List.getElem?_eq_getElem hlt]
end
end V
end Go.Proofs.Ytoljdhdfijnjiaa
