/- What the functions of the pages compute, in plain words. No condition. -/
import Derived.Test.YtoljdhdfijnjiaaPlB
import Derived.Test.YtoljdhdfijnjiaaPgAa
namespace Go.Proofs.Ytoljdhdfijnjiaa
namespace V
set_option linter.unusedVariables false
set_option linter.unusedSimpArgs false
set_option maxHeartbeats 1000000
/-- The bytes that slots use. -/
def usedP : List I_Slot → Int
  | [] => 0
  | s :: l => 2 + (s.data.size : Int) + usedP l
theorem usedP_app : ∀ (a b : List I_Slot), usedP (a ++ b) = usedP a + usedP b
  | [], b => by simp [usedP]
  | s :: a, b => by simp [usedP, usedP_app a b]; omega
theorem usedP_nonneg : ∀ l : List I_Slot, 2 * (l.length : Int) ≤ usedP l
  | [] => by simp [usedP]
  | s :: l => by have := usedP_nonneg l; simp [usedP]; omega
theorem usedP_le {l : List I_Slot} (h : ∀ s ∈ l, s.data.size ≤ 1000000000) : usedP l ≤ 1000000002 * (l.length : Int) := by
  induction l with
  | nil => simp [usedP]
  | cons s l ih =>
    have := ih fun x hx => h x (.tail _ hx)
    have := h s (.head _)
    simp [usedP]; omega
theorem usedP_take_succ {l : List I_Slot} {i : Nat} (h : i < l.length) : usedP (l.take (i + 1)) = usedP (l.take i) + (2 + (l[i].data.size : Int)) := by
  rw [List.take_add_one, List.getElem?_eq_getElem h, usedP_app]; simp [usedP]
theorem usedP_take_le (l : List I_Slot) (i : Nat) : usedP (l.take i) ≤ usedP l := by
  have h := usedP_app (l.take i) (l.drop i)
  rw [List.take_append_drop] at h
  have := usedP_nonneg (l.drop i)
  omega
theorem usedP_set {l : List I_Slot} {i : Nat} (h : i < l.length) (x : I_Slot) : usedP (l.set i x) = usedP l - (l[i].data.size : Int) + (x.data.size : Int) := by
  induction l generalizing i with
  | nil => simp at h
  | cons s l ih =>
    cases i with
    | zero => simp [usedP]; omega
    | succ i => simp [usedP, ih (by simpa using h)]; omega
/-- Slots that a machine can hold. -/
structure PB (l : List I_Slot) : Prop where
  len : l.length ≤ 4000000
  dat : ∀ s ∈ l, s.data.size ≤ 1000000000
theorem PB.used {l : List I_Slot} (h : PB l) : 0 ≤ usedP l ∧ usedP l ≤ 4000000008000000 := by
  have h1 := usedP_nonneg l
  have h2 := usedP_le h.dat
  have h3 := h.len
  omega
theorem PB.take {l : List I_Slot} (h : PB l) (i : Nat) : PB (l.take i) := ⟨by have := h.len; simp; omega, fun s hs => h.dat s (List.mem_of_mem_take hs)⟩
theorem PB.set {l : List I_Slot} (h : PB l) (i : Nat) {x : I_Slot} (hx : x.data.size ≤ 1000000000) : PB (l.set i x) := ⟨by simpa using h.len, fun s hs => by
  rcases List.mem_or_eq_of_mem_set hs with h1 | h1
  · exact h.dat s h1
  · subst h1; exact hx⟩
theorem PB.nil : PB [] := ⟨by simp, fun s h => by cases h⟩
theorem PB.snoc {l : List I_Slot} (h : PB l) (hl : l.length ≤ 3000000) {x : I_Slot} (hx : x.data.size ≤ 1000000000) : PB (l ++ [x]) := ⟨by simp; omega, fun s hs => by
  rcases List.mem_append.1 hs with h1 | h1
  · exact h.dat s h1
  · simp at h1; subst h1; exact hx⟩
/-- The last slot, if there is one, is live. -/
def lastL (l : List I_Slot) : Prop := ∀ s, l[l.length - 1]? = some s → s.live = true
/-- A page that is valid. -/
def vP (p : I_Page) : Prop := p.slots.length ≤ 8 ∧ (∀ s ∈ p.slots, s.live = false → s.data = ByteArray.empty) ∧ lastL p.slots ∧ usedP p.slots ≤ 100
noncomputable instance (p : I_Page) : Decidable (vP p) := Classical.propDecidable _
theorem inRange_eq (N : Nat) (a l h : Int) : m_S_inRange N a l h = some (decide (l ≤ a ∧ a ≤ h)) := by
  unfold m_S_inRange
  by_cases h1 : l ≤ a <;> by_cases h2 : a ≤ h <;> simp [h1, h2]
section
variable {N : Nat} (hN : 100000000 ≤ N)
include hN
theorem usedI {p : I_Page} (h : PB p.slots) : m_I_Page_used N p = some (usedP p.slots) := by
  refine ok.val ?_
  unfold m_I_Page_used
  have hu := h.used
  have hl := h.len
  refine ok.call (ok.each p.slots.length (fun i s => s = (usedP (p.slots.take i), (i : Int))) (fun b => b = usedP p.slots) ?_ ?_ N 0 _ (Nat.zero_le _) rfl (by omega)) ?_
  · rintro i _ hi rfl
    have h1 := usedP_take_succ hi
    have h2 := usedP_take_le p.slots (i + 1)
    have h3 := usedP_nonneg (p.slots.take i)
    have h4 := h.dat _ (List.getElem_mem hi)
    unfold m_I_Page_used_b1
    dsimp only
    repeat' (first | (with_reducible refine ok.some ?_) | ((with_reducible refine ok.eq (ixI_nat hi) ?_)) | (with_reducible refine ok.ite (fun hc => ?_) (fun hc => ?_)) | (with_reducible refine ok.cond (fun hc => ?_) (fun hc => ?_)) | (with_reducible refine ok.chk (by omega) ?_) | (with_reducible refine ok.bs ?_) | (with_reducible refine ok.remM (by omega) (fun _ hq => ?_)) | (with_reducible refine ok.quoM (by omega) (fun _ hq => ?_)) | (with_reducible refine ok.ix (by omega) (by omega) (fun q hq he => ?_)))
    · show _ = _
      rw [h1]; simp
    · omega
  · rintro _ rfl
    unfold m_I_Page_used_b1
    repeat' (first | (with_reducible refine ok.some ?_) | (with_reducible refine ok.iff (by omega) ?_) | (with_reducible refine ok.ite (fun hc => ?_) (fun hc => ?_)) | (with_reducible refine ok.cond (fun hc => ?_) (fun hc => ?_)) | (with_reducible refine ok.chk (by omega) ?_) | (with_reducible refine ok.bs ?_) | (with_reducible refine ok.remM (by omega) (fun _ hq => ?_)) | (with_reducible refine ok.quoM (by omega) (fun _ hq => ?_)) | (with_reducible refine ok.ix (by omega) (by omega) (fun q hq he => ?_)))
    simp
  · rintro e rfl
    exact ok.some rfl
theorem usedS {p : I_Page} (h : PB p.slots) : m_S_used N p = some (usedP p.slots) := by
  refine ok.val ?_
  unfold m_S_used
  have hu := h.used
  have hl := h.len
  refine ok.chk (by omega) ?_
  have key : ∀ i, i ≤ p.slots.length → 2 * (p.slots.length : Int) + (usedP (p.slots.take i) - 2 * (i : Int)) ≤ usedP p.slots := by
    intro i hi
    have h := usedP_app (p.slots.take i) (p.slots.drop i)
    rw [List.take_append_drop] at h
    have := usedP_nonneg (p.slots.drop i)
    simp at this; omega
  refine ok.call (ok.each p.slots.length (fun i s => s = (2 * (p.slots.length : Int) + (usedP (p.slots.take i) - 2 * (i : Int)), (i : Int))) (fun b => b = usedP p.slots) ?_ ?_ N 0 _ (Nat.zero_le _) (by simp [usedP]) (by omega)) ?_
  · rintro i _ hi rfl
    have h1 := usedP_take_succ hi
    have h2 := key (i + 1) hi
    have h3 := usedP_nonneg (p.slots.take i)
    have h4 := h.dat _ (List.getElem_mem hi)
    have h5 : (p.slots.take i).length = i := by simp; omega
    unfold m_S_used_b1
    dsimp only
    repeat' (first | (with_reducible refine ok.some ?_) | ((with_reducible refine ok.eq (ixI_nat hi) ?_)) | (with_reducible refine ok.ite (fun hc => ?_) (fun hc => ?_)) | (with_reducible refine ok.cond (fun hc => ?_) (fun hc => ?_)) | (with_reducible refine ok.chk (by omega) ?_) | (with_reducible refine ok.bs ?_) | (with_reducible refine ok.remM (by omega) (fun _ hq => ?_)) | (with_reducible refine ok.quoM (by omega) (fun _ hq => ?_)) | (with_reducible refine ok.ix (by omega) (by omega) (fun q hq he => ?_)))
    · show _ = _
      rw [h1]; simp; omega
    · omega
  · rintro _ rfl
    unfold m_S_used_b1
    repeat' (first | (with_reducible refine ok.some ?_) | (with_reducible refine ok.iff (by omega) ?_) | (with_reducible refine ok.ite (fun hc => ?_) (fun hc => ?_)) | (with_reducible refine ok.cond (fun hc => ?_) (fun hc => ?_)) | (with_reducible refine ok.chk (by omega) ?_) | (with_reducible refine ok.bs ?_) | (with_reducible refine ok.remM (by omega) (fun _ hq => ?_)) | (with_reducible refine ok.quoM (by omega) (fun _ hq => ?_)) | (with_reducible refine ok.ix (by omega) (by omega) (fun q hq he => ?_)))
    simp; omega
  · rintro e rfl
    exact ok.some rfl
theorem validPI {p : I_Page} (h : PB p.slots) : m_I_ValidPage N p = some (decide (vP p)) := by
  refine bool_eq ?_
  unfold m_I_ValidPage
  have hl := h.len
  by_cases h8 : 8 < p.slots.length
  · refine ok.ift (by omega) (ok.some ?_)
    simp [vP]; omega
  refine ok.iff (by omega) ?_
  refine ok.call (P := fun o => match o with | .inl _ => ∀ s ∈ p.slots, s.live = false → s.data = ByteArray.empty | .inr v => v = false ∧ ¬ vP p) (ok.each p.slots.length (fun i s => s = (i : Int) ∧ ∀ k (h : k < p.slots.length), k < i → p.slots[k].live = false → p.slots[k].data = ByteArray.empty) _ ?_ ?_ N 0 0 (Nat.zero_le _) ⟨rfl, fun k _ h => by omega⟩ (by omega)) ?_
  · rintro i _ hi ⟨rfl, hg⟩
    unfold m_I_ValidPage_b1
    repeat' (first | (with_reducible refine ok.some ?_) | ((with_reducible refine ok.eq (ixI_nat hi) ?_)) | (with_reducible refine ok.ite (fun hc => ?_) (fun hc => ?_)) | (with_reducible refine ok.cond (fun hc => ?_) (fun hc => ?_)) | (with_reducible refine ok.chk (by omega) ?_) | (with_reducible refine ok.bs ?_) | (with_reducible refine ok.remM (by omega) (fun _ hq => ?_)) | (with_reducible refine ok.quoM (by omega) (fun _ hq => ?_)) | (with_reducible refine ok.ix (by omega) (by omega) (fun q hq he => ?_)))
    · refine ⟨by simp, fun k h1 h2 h3 => ?_⟩
      rcases Nat.lt_succ_iff_lt_or_eq.1 h2 with h4 | h4
      · exact hg k h1 h4 h3
      · subst h4; rw [‹p.slots[k].live = true›] at h3; cases h3
    · rename_i hc
      rw [textEq] at hc
      refine ⟨by simp, fun k h1 h2 h3 => ?_⟩
      rcases Nat.lt_succ_iff_lt_or_eq.1 h2 with h4 | h4
      · exact hg k h1 h4 h3
      · subst h4; exact of_decide_eq_true hc
    · rename_i hc
      rw [textEq] at hc
      exact ⟨rfl, fun hv => of_decide_eq_false hc (hv.2.1 _ (List.getElem_mem hi) ‹_›)⟩
    · omega
  · rintro _ ⟨rfl, hg⟩
    unfold m_I_ValidPage_b1
    repeat' (first | (with_reducible refine ok.some ?_) | (with_reducible refine ok.iff (by omega) ?_) | (with_reducible refine ok.ite (fun hc => ?_) (fun hc => ?_)) | (with_reducible refine ok.cond (fun hc => ?_) (fun hc => ?_)) | (with_reducible refine ok.chk (by omega) ?_) | (with_reducible refine ok.bs ?_) | (with_reducible refine ok.remM (by omega) (fun _ hq => ?_)) | (with_reducible refine ok.quoM (by omega) (fun _ hq => ?_)) | (with_reducible refine ok.ix (by omega) (by omega) (fun q hq he => ?_)))
    intro s hs h1
    obtain ⟨k, hk, rfl⟩ := List.getElem_of_mem hs
    exact hg k hk hk h1
  · rintro (u | r) hall
    · show ok (m_I_ValidPage_k1 N p) _
      unfold m_I_ValidPage_k1
      repeat' (first | (with_reducible refine ok.some ?_) | ((with_reducible refine ok.eq (usedI hN h) ?_)) | (with_reducible refine ok.ite (fun hc => ?_) (fun hc => ?_)) | (with_reducible refine ok.cond (fun hc => ?_) (fun hc => ?_)) | (with_reducible refine ok.chk (by omega) ?_) | (with_reducible refine ok.bs ?_) | (with_reducible refine ok.remM (by omega) (fun _ hq => ?_)) | (with_reducible refine ok.quoM (by omega) (fun _ hq => ?_)) | (with_reducible refine ok.ix (by omega) (by omega) (fun q hq he => ?_)))
      · obtain rfl : q = p.slots.length - 1 := by omega
        constructor
        · intro h; exact ⟨by omega, hall, fun s hs => by rw [List.getElem?_eq_getElem hq] at hs; cases hs; exact hc, of_decide_eq_true h⟩
        · intro h; exact decide_eq_true h.2.2.2
      · obtain rfl : q = p.slots.length - 1 := by omega
        refine ⟨fun h => (by cases h), fun h => ?_⟩
        have := h.2.2.1 _ (List.getElem?_eq_getElem hq)
        rw [hc] at this; cases this
      · constructor
        · intro h; exact ⟨by omega, hall, fun s hs => by have := (List.getElem?_eq_some_iff.1 hs).1; omega, of_decide_eq_true h⟩
        · intro h; exact decide_eq_true h.2.2.2
    · exact ok.some (by simp [hall.1, hall.2])
theorem validPS {p : I_Page} (h : PB p.slots) : m_S_validPage N p = some (decide (vP p)) := by
  refine bool_eq ?_
  unfold m_S_validPage
  have hl := h.len
  refine ok.call (P := fun o => match o with | .inl _ => ∀ s ∈ p.slots, s.live = false → s.data = ByteArray.empty | .inr v => v = false ∧ ¬ vP p) (ok.each p.slots.length (fun i s => s = (i : Int) ∧ ∀ k (h : k < p.slots.length), k < i → p.slots[k].live = false → p.slots[k].data = ByteArray.empty) _ ?_ ?_ N 0 0 (Nat.zero_le _) ⟨rfl, fun k _ h => by omega⟩ (by omega)) ?_
  · rintro i _ hi ⟨rfl, hg⟩
    unfold m_S_validPage_b1
    repeat' (first | (with_reducible refine ok.some ?_) | ((with_reducible refine ok.eq (ixI_nat hi) ?_)) | (with_reducible refine ok.ite (fun hc => ?_) (fun hc => ?_)) | (with_reducible refine ok.cond (fun hc => ?_) (fun hc => ?_)) | (with_reducible refine ok.chk (by omega) ?_) | (with_reducible refine ok.bs ?_) | (with_reducible refine ok.remM (by omega) (fun _ hq => ?_)) | (with_reducible refine ok.quoM (by omega) (fun _ hq => ?_)) | (with_reducible refine ok.ix (by omega) (by omega) (fun q hq he => ?_)))
    · refine ⟨by simp, fun k h1 h2 h3 => ?_⟩
      rcases Nat.lt_succ_iff_lt_or_eq.1 h2 with h4 | h4
      · exact hg k h1 h4 h3
      · subst h4; rw [‹p.slots[k].live = true›] at h3; cases h3
    · rename_i hc
      rw [textEq] at hc
      refine ⟨by simp, fun k h1 h2 h3 => ?_⟩
      rcases Nat.lt_succ_iff_lt_or_eq.1 h2 with h4 | h4
      · exact hg k h1 h4 h3
      · subst h4; exact of_decide_eq_true hc
    · rename_i hc
      rw [textEq] at hc
      exact ⟨rfl, fun hv => of_decide_eq_false hc (hv.2.1 _ (List.getElem_mem hi) ‹_›)⟩
    · omega
  · rintro _ ⟨rfl, hg⟩
    unfold m_S_validPage_b1
    repeat' (first | (with_reducible refine ok.some ?_) | (with_reducible refine ok.iff (by omega) ?_) | (with_reducible refine ok.ite (fun hc => ?_) (fun hc => ?_)) | (with_reducible refine ok.cond (fun hc => ?_) (fun hc => ?_)) | (with_reducible refine ok.chk (by omega) ?_) | (with_reducible refine ok.bs ?_) | (with_reducible refine ok.remM (by omega) (fun _ hq => ?_)) | (with_reducible refine ok.quoM (by omega) (fun _ hq => ?_)) | (with_reducible refine ok.ix (by omega) (by omega) (fun q hq he => ?_)))
    intro s hs h1
    obtain ⟨k, hk, rfl⟩ := List.getElem_of_mem hs
    exact hg k hk hk h1
  · rintro (u | r) hall
    · show ok (m_S_validPage_k1 N p) _
      unfold m_S_validPage_k1
      repeat' (first | (with_reducible refine ok.some ?_) | ((with_reducible refine ok.eq (usedS hN h) ?_)) | (with_reducible refine ok.ite (fun hc => ?_) (fun hc => ?_)) | (with_reducible refine ok.cond (fun hc => ?_) (fun hc => ?_)) | (with_reducible refine ok.chk (by omega) ?_) | (with_reducible refine ok.bs ?_) | (with_reducible refine ok.remM (by omega) (fun _ hq => ?_)) | (with_reducible refine ok.quoM (by omega) (fun _ hq => ?_)) | (with_reducible refine ok.ix (by omega) (by omega) (fun q hq he => ?_)))
      · exact ⟨fun _ => ⟨by omega, hall, fun s hs => by have := (List.getElem?_eq_some_iff.1 hs).1; omega, by omega⟩, fun _ => rfl⟩
      · obtain rfl : q = p.slots.length - 1 := by omega
        constructor
        · intro h; exact ⟨by omega, hall, fun s hs => by rw [List.getElem?_eq_getElem hq] at hs; cases hs; exact h, by omega⟩
        · intro h; exact h.2.2.1 _ (List.getElem?_eq_getElem hq)
      · exact ⟨fun h => (by cases h), fun h => by have := h.2.2.2; omega⟩
      · exact ⟨fun h => (by cases h), fun h => by have := h.1; omega⟩
    · exact ok.some (by simp [hall.1, hall.2])
end
end V
end Go.Proofs.Ytoljdhdfijnjiaa
