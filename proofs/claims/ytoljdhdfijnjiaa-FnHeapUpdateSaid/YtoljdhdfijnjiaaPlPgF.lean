/- What follows for pages: what is put can be got, and more. No condition. -/
import Derived.Test.YtoljdhdfijnjiaaPlPgD
import Derived.Test.YtoljdhdfijnjiaaPgR
namespace Go.Proofs.Ytoljdhdfijnjiaa
namespace V
set_option linter.unusedVariables false
set_option linter.unusedSimpArgs false
/-- The record of a slot that may be there. -/
def getO : Option I_Slot → ByteArray × Bool
  | some s => if s.live = true then (s.data, true) else (ByteArray.empty, false)
  | none => (ByteArray.empty, false)
theorem lvP_nat {p : I_Page} (hv : vP p) (i : Nat) : lvP p (i : Int) ↔ ∃ s, p.slots[i]? = some s ∧ s.live = true := by
  constructor
  · rintro ⟨_, _, s, h1, h2⟩; exact ⟨s, by simpa using h1, h2⟩
  · rintro ⟨s, h1, h2⟩; exact ⟨hv, by omega, s, by simpa using h1, h2⟩
theorem getP_nat {p : I_Page} (hv : vP p) (i : Nat) : getP p (i : Int) = getO p.slots[i]? := by
  unfold getP
  cases h : p.slots[i]? with
  | none =>
    have : ¬ lvP p (i : Int) := by rw [lvP_nat hv]; rintro ⟨s, h1, _⟩; rw [h] at h1; cases h1
    rw [if_neg this]; rfl
  | some s =>
    by_cases hl : s.live = true
    · rw [if_pos ((lvP_nat hv i).2 ⟨s, h, hl⟩)]
      simp [getO, hl, h]
    · have : ¬ lvP p (i : Int) := by rw [lvP_nat hv]; rintro ⟨s', h1, h2⟩; rw [h] at h1; cases h1; exact hl h2
      rw [if_neg this]; simp [getO, hl]
theorem withS_other {l : List I_Slot} {k i : Nat} {s : I_Slot} (hi : i < l.length) (hk : i ≠ k) : (withS l k s)[i]? = l[i]? := by
  unfold withS; split
  · rw [List.getElem?_set_ne (Ne.symm hk)]
  · rw [List.getElem?_append_left hi]
theorem withS_self {l : List I_Slot} {k : Nat} {s : I_Slot} (hk : k ≤ l.length) : (withS l k s)[k]? = some s := by
  unfold withS; split
  · rename_i h; rw [List.getElem?_set_self h]
  · have : k = l.length := by omega
    subst this; simp
theorem withS_len {l : List I_Slot} {k : Nat} {s : I_Slot} (hk : k ≤ l.length) : (withS l k s).length = max l.length (k + 1) := by
  unfold withS; split
  · simp; omega
  · simp; omega
/-- A dead slot of a valid page is empty. -/
theorem vP_dead {p : I_Page} (hv : vP p) {k : Nat} (hk : k < p.slots.length) (h : p.slots[k].live = false) : p.slots[k] = noSlot := by
  have := hv.2.1 _ (List.getElem_mem hk) h
  cases hs : p.slots[k] with | mk a b => rw [hs] at h this; simp at h this; subst h; subst this; rfl
theorem trimN_app (l r : List I_Slot) : ∀ n, n ≤ l.length → trimN (l ++ r) n = trimN l n
  | 0, _ => rfl
  | n + 1, h => by
    rw [trimN_succ _ (show n < (l ++ r).length by simp; omega), trimN_succ _ (show n < l.length by omega), List.getElem_append_left (by omega), trimN_app l r n (by omega)]
theorem set_dead {l : List I_Slot} {k : Nat} (hk : k < l.length) (h : l[k] = noSlot) (x : I_Slot) : (l.set k x).set k noSlot = l := by
  rw [List.set_set]
  apply List.ext_getElem (by simp)
  intro i h1 h2
  rw [List.getElem_set]; split
  · rename_i e; subst e; exact h.symm
  · rfl
theorem clear_back {p : I_Page} (hv : vP p) (x : I_Slot) : trimP ((withS p.slots (freeAt p.slots) x).set (freeAt p.slots) noSlot) = p.slots := by
  have hle := freeAt_le p.slots
  unfold withS; split
  · rename_i h
    rw [set_dead h (vP_dead hv h (freeAt_free h)), trimP_last hv.2.2.1]
  · have e : freeAt p.slots = p.slots.length := by omega
    rw [e, List.set_append_right _ _ (Nat.le_refl _)]
    simp only [Nat.sub_self, List.set_cons_zero]
    unfold trimP
    have hl : (p.slots ++ [noSlot]).length = p.slots.length + 1 := by simp
    rw [hl, trimN_succ _ (by rw [hl]; omega), List.getElem_append_right (Nat.le_refl _)]
    simp only [Nat.sub_self, List.getElem_cons_zero]
    rw [if_neg (by simp), trimN_app _ _ _ (Nat.le_refl _), trimN_last hv.2.2.1]
    simp
theorem vP_clear {p : I_Page} {k : Int} (h : lvP p k) : vP ⟨trimP (p.slots.set k.toNat noSlot)⟩ ∧ usedP (trimP (p.slots.set k.toNat noSlot)) ≤ usedP p.slots - (((p.slots[k.toNat]?).getD noSlot).data.size : Int) := by
  have hlt := lvP_lt h
  have hv := h.1
  have h1 : usedP (trimP (p.slots.set k.toNat noSlot)) ≤ usedP (p.slots.set k.toNat noSlot) := usedP_take_le _ _
  have h2 := usedP_set hlt noSlot
  have h3 : (noSlot.data.size : Int) = 0 := rfl
  have h4 : ((p.slots[k.toNat]?).getD noSlot) = p.slots[k.toNat] := by rw [List.getElem?_eq_getElem hlt]; rfl
  have h5 := hv.1
  have h6 := hv.2.2.2
  rw [h4]
  refine ⟨⟨?_, fun s hs hd => ?_, trimP_lastL _, ?_⟩, by omega⟩
  · have : (trimP (p.slots.set k.toNat noSlot)).length ≤ p.slots.length := by
      unfold trimP; simp; omega
    show (trimP _).length ≤ 8
    omega
  · have hs : s ∈ p.slots.set k.toNat noSlot := List.mem_of_mem_take hs
    rcases List.mem_or_eq_of_mem_set hs with h7 | h7
    · exact hv.2.1 s h7 hd
    · subst h7; rfl
  · show usedP (trimP _) ≤ 100
    omega
theorem not_lv_clear {p : I_Page} {k : Int} (h : lvP p k) : ¬ lvP ⟨trimP (p.slots.set k.toNat noSlot)⟩ k := by
  rintro ⟨_, _, s, hs, hl⟩
  have hlt := lvP_lt h
  have hs : (trimP (p.slots.set k.toNat noSlot))[k.toNat]? = some s := hs
  unfold trimP at hs
  rw [List.getElem?_take] at hs
  split at hs
  · rw [List.getElem?_set_self hlt] at hs; cases hs; cases hl
  · cases hs
theorem usedP_with {p : I_Page} (hv : vP p) (x : I_Slot) : usedP (withS p.slots (freeAt p.slots) x) = usedP p.slots + (x.data.size : Int) + (if freeAt p.slots < p.slots.length then 0 else 2) := by
  unfold withS; split
  · rename_i h
    rw [usedP_set h, vP_dead hv h (freeAt_free h)]
    have : (noSlot.data.size : Int) = 0 := rfl
    omega
  · rw [usedP_app]; simp [usedP]; omega
end V
end Go.Proofs.Ytoljdhdfijnjiaa
