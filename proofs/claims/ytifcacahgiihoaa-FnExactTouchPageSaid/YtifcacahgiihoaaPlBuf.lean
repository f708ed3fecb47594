/- What the functions of the buffers compute, in plain words. No condition. -/
import Derived.Test.YtifcacahgiihoaaPlR
import Derived.Test.YtifcacahgiihoaaGBufB
import Derived.Test.YtifcacahgiihoaaGBufT
namespace Go.Proofs.Ytifcacahgiihoaa
namespace V
set_option linter.unusedVariables false
set_option linter.unusedSimpArgs false
set_option maxHeartbeats 1000000

/-- The number of the frame that holds a page, or -1. -/
def FndS (fs : List I_Frame) (p : Int) (r : Int) : Prop := (r = -1 ∧ ∀ i (h : i < fs.length), fs[i].page ≠ p) ∨ ∃ i : Nat, ∃ h : i < fs.length, r = (i : Int) ∧ fs[i].page = p ∧ ∀ k (hk : k < i), (fs[k]'(by omega)).page ≠ p
def fnd (fs : List I_Frame) (p : Int) : Int := if fs.findIdx (fun f => decide (f.page = p)) < fs.length then fs.findIdx (fun f => decide (f.page = p)) else -1
theorem fnd_spec (fs : List I_Frame) (p : Int) : FndS fs p (fnd fs p) := by
  unfold fnd
  split
  · rename_i h
    exact .inr ⟨_, h, rfl, by simpa using List.findIdx_getElem (w := h), fun k hk => by simpa using List.not_of_lt_findIdx hk⟩
  · rename_i h
    have : fs.findIdx (fun f => decide (f.page = p)) = fs.length := by have := List.findIdx_le_length (xs := fs) (p := fun f => decide (f.page = p)); omega
    exact .inl ⟨rfl, fun i hi => by have := List.not_of_lt_findIdx (p := fun f => decide (f.page = p)) (xs := fs) (i := i) (by omega); simpa using this⟩
theorem FndS.uniq {fs : List I_Frame} {p r r' : Int} (h : FndS fs p r) (h' : FndS fs p r') : r = r' := by
  rcases h with ⟨h1, h2⟩ | ⟨i, hi, h1, h2, h3⟩ <;> rcases h' with ⟨g1, g2⟩ | ⟨j, hj, g1, g2, g3⟩
  · omega
  · exact (h2 j hj g2).elim
  · exact (g2 i hi h2).elim
  · rcases Nat.lt_trichotomy i j with h | h | h
    · exact (g3 i h h2).elim
    · omega
    · exact (h3 j h g2).elim
theorem fnd_eq {o : Option Int} {fs : List I_Frame} {p : Int} (h : ok o (FndS fs p)) : o = some (fnd fs p) := by
  obtain ⟨r, e, hr⟩ := h
  rw [e, hr.uniq (fnd_spec fs p)]
section
variable {N : Nat} (hN : 100000000 ≤ N)
include hN
theorem find_eq {b : I_Buffer} {p : Int} (hb : b.frames.length ≤ 4000000) : m_I_Buffer_find N b p = some (fnd b.frames p) := by
  refine fnd_eq ?_
  unfold m_I_Buffer_find m_slices_IndexFunc_I_Frame
  refine ok.call (P := FndS b.frames p) ?_ (fun r h => ok.some h)
  refine ok.call (P := fun o => match o with | .inl _ => FndS b.frames p (-1) | .inr r => FndS b.frames p r) (ok.up b.frames.length (fun k => ∃ h : k < b.frames.length, b.frames[k].page ≠ p) _ (by omega) ?_ ?_) ?_
  · intro i hi hg
    unfold m_slices_IndexFunc_I_Frame_b1 m_I_Buffer_find_1
    repeat' (first | (with_reducible refine ok.some ?_) | (with_reducible refine ok.ite (fun hc => ?_) (fun hc => ?_)) | (with_reducible refine ok.cond (fun hc => ?_) (fun hc => ?_)) | (with_reducible refine ok.chk (by omega) ?_) | (with_reducible refine ok.bs ?_) | (with_reducible refine ok.remM (by omega) (fun _ hq => ?_)) | (with_reducible refine ok.quoM (by omega) (fun _ hq => ?_)) | (with_reducible refine ok.ix (by omega) (by omega) (fun q hq he => ?_)))
    · exact .inr ⟨i, hi, rfl, by grind, fun k hk => (hg k hk).2⟩
    · exact ⟨rfl, hi, by grind⟩
    · omega
  · intro hg
    unfold m_slices_IndexFunc_I_Frame_b1
    repeat' (first | (with_reducible refine ok.some ?_) | (with_reducible refine ok.iff (by omega) ?_) | (with_reducible refine ok.ite (fun hc => ?_) (fun hc => ?_)) | (with_reducible refine ok.cond (fun hc => ?_) (fun hc => ?_)) | (with_reducible refine ok.chk (by omega) ?_) | (with_reducible refine ok.bs ?_) | (with_reducible refine ok.remM (by omega) (fun _ hq => ?_)) | (with_reducible refine ok.quoM (by omega) (fun _ hq => ?_)) | (with_reducible refine ok.ix (by omega) (by omega) (fun q hq he => ?_)))
    · exact .inl ⟨rfl, fun i hi => (hg i hi).2⟩
  · rintro (u | r) h
    · exact ok.some h
    · exact ok.some h
theorem frameOf_eq {b : I_Buffer} {p : Int} (hb : b.frames.length ≤ 4000000) : m_S_frameOf N b p = some (fnd b.frames p) := by
  refine fnd_eq ?_
  unfold m_S_frameOf
  refine ok.call (P := fun o => match o with | .inl _ => FndS b.frames p (-1) | .inr r => FndS b.frames p r) (ok.up b.frames.length (fun k => ∃ h : k < b.frames.length, b.frames[k].page ≠ p) _ (by omega) ?_ ?_) ?_
  · intro i hi hg
    unfold m_S_frameOf_b1
    repeat' (first | (with_reducible refine ok.some ?_) | (with_reducible refine ok.ite (fun hc => ?_) (fun hc => ?_)) | (with_reducible refine ok.cond (fun hc => ?_) (fun hc => ?_)) | (with_reducible refine ok.chk (by omega) ?_) | (with_reducible refine ok.bs ?_) | (with_reducible refine ok.remM (by omega) (fun _ hq => ?_)) | (with_reducible refine ok.quoM (by omega) (fun _ hq => ?_)) | (with_reducible refine ok.ix (by omega) (by omega) (fun q hq he => ?_)))
    · exact .inr ⟨i, hi, rfl, by grind, fun k hk => (hg k hk).2⟩
    · exact ⟨rfl, hi, by grind⟩
    · omega
  · intro hg
    unfold m_S_frameOf_b1
    repeat' (first | (with_reducible refine ok.some ?_) | (with_reducible refine ok.iff (by omega) ?_) | (with_reducible refine ok.ite (fun hc => ?_) (fun hc => ?_)) | (with_reducible refine ok.cond (fun hc => ?_) (fun hc => ?_)) | (with_reducible refine ok.chk (by omega) ?_) | (with_reducible refine ok.bs ?_) | (with_reducible refine ok.remM (by omega) (fun _ hq => ?_)) | (with_reducible refine ok.quoM (by omega) (fun _ hq => ?_)) | (with_reducible refine ok.ix (by omega) (by omega) (fun q hq he => ?_)))
    · exact .inl ⟨rfl, fun i hi => (hg i hi).2⟩
  · rintro (u | r) h
    · exact ok.some h
    · exact ok.some h
end
/-- A frame that is well formed. -/
def frOk (f : I_Frame) : Prop := 0 ≤ f.page ∧ f.page ≤ 5 ∧ 0 ≤ f.last ∧ f.last ≤ 9999 ∧ 0 ≤ f.first ∧ f.first ≤ f.last ∧ f.dirty = decide (0 < f.first)
instance (f : I_Frame) : Decidable (frOk f) := by unfold frOk; infer_instance
def vB (b : I_Buffer) : Prop := b.frames.length ≤ 4 ∧ 0 ≤ b.forced ∧ b.forced ≤ 9999 ∧ (∀ i (h : i < b.frames.length), frOk b.frames[i]) ∧ ∀ i (h : i < b.frames.length) k (hk : k < i), b.frames[k].page ≠ b.frames[i].page
noncomputable instance (b : I_Buffer) : Decidable (vB b) := Classical.propDecidable _
theorem bool_eq {o : Option Bool} {p : Prop} [Decidable p] (h : ok o fun r => r = true ↔ p) : o = some (decide p) := by
  obtain ⟨r, e, hr⟩ := h
  rw [e]; congr 1
  by_cases hp : p
  · rw [decide_eq_true hp]; exact hr.2 hp
  · rw [decide_eq_false hp]; cases r
    · rfl
    · exact (hp (hr.1 rfl)).elim
theorem inRange_eq (N : Nat) (a l h : Int) : m_S_inRange N a l h = some (decide (l ≤ a ∧ a ≤ h)) := by
  unfold m_S_inRange
  by_cases h1 : l ≤ a <;> by_cases h2 : a ≤ h <;> simp [h1, h2]
section
variable {N : Nat} (hN : 100000000 ≤ N)
include hN
theorem validI {b : I_Buffer} (hb : b.frames.length ≤ 4000000) : m_I_ValidBuffer N b = some (decide (vB b)) := by
  refine bool_eq ?_
  unfold m_I_ValidBuffer
  repeat' (first | (with_reducible refine ok.some ?_) | (fail) | (with_reducible refine ok.ite (fun hc => ?_) (fun hc => ?_)) | (with_reducible refine ok.cond (fun hc => ?_) (fun hc => ?_)) | (with_reducible refine ok.chk (by omega) ?_) | (with_reducible refine ok.bs ?_) | (with_reducible refine ok.remM (by omega) (fun _ hq => ?_)) | (with_reducible refine ok.quoM (by omega) (fun _ hq => ?_)) | (with_reducible refine ok.ix (by omega) (by omega) (fun q hq he => ?_)))
  · simp [vB]; omega
  · simp [vB]; omega
  · simp [vB]; omega
  refine ok.call (P := fun o => match o with | .inl _ => (∀ i (h : i < b.frames.length), frOk b.frames[i]) ∧ ∀ i (h : i < b.frames.length) k (hk : k < i), b.frames[k].page ≠ b.frames[i].page | .inr v => v = false ∧ ¬ vB b)
    (ok.up b.frames.length (fun k => ∃ h : k < b.frames.length, frOk b.frames[k] ∧ ∀ j (hj : j < k), b.frames[j].page ≠ b.frames[k].page) _ (by omega) ?_ ?_) ?_
  · intro i hi hg
    unfold m_I_ValidBuffer_b1
    have hf := fnd_spec b.frames b.frames[i].page
    have hv : ∀ j (h : j < b.frames.length), vB b → frOk b.frames[j] := fun j h hb => hb.2.2.2.1 j h
    have hv2 : ∀ j (h : j < b.frames.length) k (hk : k < j), vB b → b.frames[k].page ≠ b.frames[j].page := fun j h k hk hb => hb.2.2.2.2 j h k hk
    repeat' (first | (with_reducible refine ok.some ?_) | ((with_reducible refine ok.eq (ixI_nat hi) ?_)) | ((with_reducible refine ok.eq (find_eq hN hb) ?_)) | (with_reducible refine ok.ite (fun hc => ?_) (fun hc => ?_)) | (with_reducible refine ok.cond (fun hc => ?_) (fun hc => ?_)) | (with_reducible refine ok.chk (by omega) ?_) | (with_reducible refine ok.bs ?_) | (with_reducible refine ok.remM (by omega) (fun _ hq => ?_)) | (with_reducible refine ok.quoM (by omega) (fun _ hq => ?_)) | (with_reducible refine ok.ix (by omega) (by omega) (fun q hq he => ?_)))
    all_goals first | omega | skip
    all_goals first | (exact ⟨rfl, fun h => by have := hv i hi h; unfold frOk at this; grind⟩) | skip
    · refine ⟨rfl, hi, ?_, ?_⟩
      · unfold frOk; grind
      · rcases hf with ⟨h1, h2⟩ | ⟨k, hk, h1, h2, h3⟩
        · omega
        · have : k = i := by omega
          subst this; exact h3
    · refine ⟨rfl, fun h => ?_⟩
      rcases hf with ⟨h1, h2⟩ | ⟨k, hk, h1, h2, h3⟩
      · exact h2 i hi rfl
      · rcases Nat.lt_trichotomy k i with h4 | h4 | h4
        · exact hv2 i hi k h4 h h2
        · omega
        · exact h3 i h4 rfl
  · intro hg
    unfold m_I_ValidBuffer_b1
    repeat' (first | (with_reducible refine ok.some ?_) | (with_reducible refine ok.iff (by omega) ?_) | (with_reducible refine ok.ite (fun hc => ?_) (fun hc => ?_)) | (with_reducible refine ok.cond (fun hc => ?_) (fun hc => ?_)) | (with_reducible refine ok.chk (by omega) ?_) | (with_reducible refine ok.bs ?_) | (with_reducible refine ok.remM (by omega) (fun _ hq => ?_)) | (with_reducible refine ok.quoM (by omega) (fun _ hq => ?_)) | (with_reducible refine ok.ix (by omega) (by omega) (fun q hq he => ?_)))
    · exact ⟨fun i h => (hg i h).2.1, fun i h k hk => (hg i h).2.2 k hk⟩
  · rintro (u | r) h
    · exact ok.some ⟨fun _ => ⟨by omega, by omega, by omega, h.1, h.2⟩, fun _ => rfl⟩
    · exact ok.some (by simp [h.1, h.2])
theorem validS {b : I_Buffer} (hb : b.frames.length ≤ 4000000) : m_S_validBuffer N b = some (decide (vB b)) := by
  refine bool_eq ?_
  unfold m_S_validBuffer
  refine ok.call (P := fun o => match o with | .inl _ => (∀ i (h : i < b.frames.length), frOk b.frames[i]) ∧ ∀ i (h : i < b.frames.length) k (hk : k < i), b.frames[k].page ≠ b.frames[i].page | .inr v => v = false ∧ ¬ vB b)
    (ok.up b.frames.length (fun k => ∃ h : k < b.frames.length, frOk b.frames[k] ∧ ∀ j (hj : j < k), b.frames[j].page ≠ b.frames[k].page) _ (by omega) ?_ ?_) ?_
  · intro i hi hg
    unfold m_S_validBuffer_b2
    have hv : ∀ j (h : j < b.frames.length), vB b → frOk b.frames[j] := fun j h hb => hb.2.2.2.1 j h
    have hv2 : ∀ j (h : j < b.frames.length) k (hk : k < j), vB b → b.frames[k].page ≠ b.frames[j].page := fun j h k hk hb => hb.2.2.2.2 j h k hk
    have hw : vB b → frOk b.frames[i] := hv i hi
    unfold frOk at hw
    repeat' (first | (with_reducible refine ok.some ?_) | ((with_reducible refine ok.eq (ixI_nat hi) ?_)) | ((with_reducible refine ok.eq (inRange_eq N _ _ _) ?_)) | (with_reducible refine ok.ite (fun hc => ?_) (fun hc => ?_)) | (with_reducible refine ok.cond (fun hc => ?_) (fun hc => ?_)) | (with_reducible refine ok.chk (by omega) ?_) | (with_reducible refine ok.bs ?_) | (with_reducible refine ok.remM (by omega) (fun _ hq => ?_)) | (with_reducible refine ok.quoM (by omega) (fun _ hq => ?_)) | (with_reducible refine ok.ix (by omega) (by omega) (fun q hq he => ?_)))
    all_goals first | omega | skip
    all_goals first | (exact ⟨rfl, fun h => by have := hw h; grind⟩) | skip
    refine ok.call (P := fun o => match o with | .inl _ => ∀ k (hk : k < i), b.frames[k].page ≠ b.frames[i].page | .inr v => v = false ∧ ¬ vB b)
      (ok.up i (fun k => ∃ h : k < i, b.frames[k].page ≠ b.frames[i].page) _ (by omega) ?_ ?_) ?_
    · intro k hk hg2
      unfold m_S_validBuffer_b3
      have hk' : k < b.frames.length := by omega
      repeat' (first | (with_reducible refine ok.some ?_) | ((with_reducible refine ok.eq (ixI_nat hk') ?_)) | (with_reducible refine ok.ite (fun hc => ?_) (fun hc => ?_)) | (with_reducible refine ok.cond (fun hc => ?_) (fun hc => ?_)) | (with_reducible refine ok.chk (by omega) ?_) | (with_reducible refine ok.bs ?_) | (with_reducible refine ok.remM (by omega) (fun _ hq => ?_)) | (with_reducible refine ok.quoM (by omega) (fun _ hq => ?_)) | (with_reducible refine ok.ix (by omega) (by omega) (fun q hq he => ?_)))
      · exact ⟨rfl, fun h => hv2 i hi k hk h ‹_›⟩
      · exact ⟨rfl, hk, ‹_›⟩
      · omega
    · intro hg2
      unfold m_S_validBuffer_b3
      repeat' (first | (with_reducible refine ok.some ?_) | (with_reducible refine ok.iff (by omega) ?_) | (with_reducible refine ok.ite (fun hc => ?_) (fun hc => ?_)) | (with_reducible refine ok.cond (fun hc => ?_) (fun hc => ?_)) | (with_reducible refine ok.chk (by omega) ?_) | (with_reducible refine ok.bs ?_) | (with_reducible refine ok.remM (by omega) (fun _ hq => ?_)) | (with_reducible refine ok.quoM (by omega) (fun _ hq => ?_)) | (with_reducible refine ok.ix (by omega) (by omega) (fun q hq he => ?_)))
      exact fun k hk => (hg2 k hk).2
    · rintro (u | r) h
      · show ok (m_S_validBuffer_k3 N i) _
        unfold m_S_validBuffer_k3
        repeat' (first | (with_reducible refine ok.some ?_) | (with_reducible refine ok.ite (fun hc => ?_) (fun hc => ?_)) | (with_reducible refine ok.cond (fun hc => ?_) (fun hc => ?_)) | (with_reducible refine ok.chk (by omega) ?_) | (with_reducible refine ok.bs ?_) | (with_reducible refine ok.remM (by omega) (fun _ hq => ?_)) | (with_reducible refine ok.quoM (by omega) (fun _ hq => ?_)) | (with_reducible refine ok.ix (by omega) (by omega) (fun q hq he => ?_)))
        exact ⟨rfl, hi, by unfold frOk; grind, h⟩
      · exact ok.some h
  · intro hg
    unfold m_S_validBuffer_b2
    repeat' (first | (with_reducible refine ok.some ?_) | (with_reducible refine ok.iff (by omega) ?_) | (with_reducible refine ok.ite (fun hc => ?_) (fun hc => ?_)) | (with_reducible refine ok.cond (fun hc => ?_) (fun hc => ?_)) | (with_reducible refine ok.chk (by omega) ?_) | (with_reducible refine ok.bs ?_) | (with_reducible refine ok.remM (by omega) (fun _ hq => ?_)) | (with_reducible refine ok.quoM (by omega) (fun _ hq => ?_)) | (with_reducible refine ok.ix (by omega) (by omega) (fun q hq he => ?_)))
    exact ⟨fun i h => (hg i h).2.1, fun i h k hk => (hg i h).2.2 k hk⟩
  · rintro (u | r) h
    · show ok (m_S_validBuffer_k2 N b) _
      unfold m_S_validBuffer_k2
      repeat' (first | (with_reducible refine ok.some ?_) | ((with_reducible refine ok.eq (inRange_eq N _ _ _) ?_)) | (with_reducible refine ok.ite (fun hc => ?_) (fun hc => ?_)) | (with_reducible refine ok.cond (fun hc => ?_) (fun hc => ?_)) | (with_reducible refine ok.chk (by omega) ?_) | (with_reducible refine ok.bs ?_) | (with_reducible refine ok.remM (by omega) (fun _ hq => ?_)) | (with_reducible refine ok.quoM (by omega) (fun _ hq => ?_)) | (with_reducible refine ok.ix (by omega) (by omega) (fun q hq he => ?_)))
      · exact ⟨fun hq => ⟨by omega, by grind, by grind, h.1, h.2⟩, fun hq => decide_eq_true ⟨hq.2.1, hq.2.2.1⟩⟩
      · exact ⟨fun hq => (by cases hq), fun hq => by have := hq.1; omega⟩
    · exact ok.some (by simp [h.1, h.2])
/-- A page that may be written out. -/
def cwP (b : I_Buffer) (p : Int) : Prop := vB b ∧ ∃ i : Nat, ∃ h : i < b.frames.length, fnd b.frames p = (i : Int) ∧ b.frames[i].dirty = true ∧ b.frames[i].last ≤ b.forced
noncomputable instance (b : I_Buffer) (p : Int) : Decidable (cwP b p) := Classical.propDecidable _
omit hN in
theorem fnd_lt (fs : List I_Frame) (p : Int) : -1 ≤ fnd fs p ∧ fnd fs p < fs.length := by
  rcases fnd_spec fs p with ⟨h, _⟩ | ⟨i, hi, h, _⟩ <;> omega
theorem canWriteI {b : I_Buffer} {p : Int} (hb : b.frames.length ≤ 4000000) : m_I_CanWrite N b p = some (decide (cwP b p)) := by
  refine bool_eq ?_
  unfold m_I_CanWrite
  have hl := fnd_lt b.frames p
  repeat' (first | (with_reducible refine ok.some ?_) | ((with_reducible refine ok.eq (validI hN hb) ?_)) | ((with_reducible refine ok.eq (find_eq hN hb) ?_)) | (with_reducible refine ok.ite (fun hc => ?_) (fun hc => ?_)) | (with_reducible refine ok.cond (fun hc => ?_) (fun hc => ?_)) | (with_reducible refine ok.chk (by omega) ?_) | (with_reducible refine ok.bs ?_) | (with_reducible refine ok.remM (by omega) (fun _ hq => ?_)) | (with_reducible refine ok.quoM (by omega) (fun _ hq => ?_)) | (with_reducible refine ok.ix (by omega) (by omega) (fun q hq he => ?_)))
  · rename_i hv h0 q0 hq0 he0
    obtain rfl : q0 = q := by omega
    constructor
    · intro h; exact ⟨hv, _, hq, he, hc, of_decide_eq_true h⟩
    · rintro ⟨_, i, hi, h1, h2, h3⟩
      obtain rfl : i = q0 := by omega
      exact decide_eq_true h3
  all_goals refine ⟨fun h => (by cases h), ?_⟩
  all_goals rintro ⟨_, i, hi, h1, h2, h3⟩
  all_goals first | (exact absurd ‹vB b› ‹_›) | grind
theorem canWriteS {b : I_Buffer} {p : Int} (hb : b.frames.length ≤ 4000000) : m_S_CanWrite N b p = some (decide (cwP b p)) := by
  refine bool_eq ?_
  unfold m_S_CanWrite
  have hl := fnd_lt b.frames p
  repeat' (first | (with_reducible refine ok.some ?_) | ((with_reducible refine ok.eq (validS hN hb) ?_)) | ((with_reducible refine ok.eq (frameOf_eq hN hb) ?_)) | (with_reducible refine ok.ite (fun hc => ?_) (fun hc => ?_)) | (with_reducible refine ok.cond (fun hc => ?_) (fun hc => ?_)) | (with_reducible refine ok.chk (by omega) ?_) | (with_reducible refine ok.bs ?_) | (with_reducible refine ok.remM (by omega) (fun _ hq => ?_)) | (with_reducible refine ok.quoM (by omega) (fun _ hq => ?_)) | (with_reducible refine ok.ix (by omega) (by omega) (fun q hq he => ?_)))
  · rename_i hv h0 q0 hq0 he0
    obtain rfl : q0 = q := by omega
    constructor
    · intro h; exact ⟨hv, _, hq, he, hc, of_decide_eq_true h⟩
    · rintro ⟨_, i, hi, h1, h2, h3⟩
      obtain rfl : i = q0 := by omega
      exact decide_eq_true h3
  all_goals refine ⟨fun h => (by cases h), ?_⟩
  all_goals rintro ⟨_, i, hi, h1, h2, h3⟩
  all_goals first | (exact absurd ‹vB b› ‹_›) | grind
noncomputable def forceB (b : I_Buffer) (l : Int) : I_Buffer := if vB b ∧ 0 ≤ l ∧ l ≤ 9999 then ⟨b.frames, max b.forced l⟩ else ⟨[], 0⟩
omit hN in
theorem cloneI {b : I_Buffer} (hb : b.frames.length ≤ 4000000) : m_I_Buffer_clone N b = some b := by
  unfold m_I_Buffer_clone m_slices_Clone_I_Frame
  rw [appM_eq (by simp; omega)]; rfl
omit hN in
theorem copyS {b : I_Buffer} (hb : b.frames.length ≤ 4000000) : m_S_copyBuffer N b = some b := by
  unfold m_S_copyBuffer
  rw [appM_eq (by simp; omega)]; rfl
theorem forceI {b : I_Buffer} {l : Int} (hb : b.frames.length ≤ 4000000) : m_I_ForceLog N b l = some (forceB b l) := by
  unfold m_I_ForceLog forceB
  rw [validI hN hb]
  by_cases hv : vB b <;> by_cases h1 : l < 0 <;> by_cases h2 : 9999 < l <;> simp [hv, h1, h2, cloneI hb]
  all_goals first | omega | grind
theorem forceS {b : I_Buffer} {l : Int} (hb : b.frames.length ≤ 4000000) : m_S_ForceLog N b l = some (forceB b l) := by
  unfold m_S_ForceLog forceB
  rw [validS hN hb]
  have ha : appM 32 ([] : List I_Frame) b.frames = some b.frames := by rw [appM_eq (by simp; omega)]; rfl
  by_cases hv : vB b <;> by_cases h1 : 0 ≤ l <;> by_cases h2 : l ≤ 9999 <;> simp [hv, h1, h2, inRange_eq, ha]
end
noncomputable def touchB (b : I_Buffer) (p l : Int) : I_Buffer × Bool :=
  if vB b ∧ 0 ≤ p ∧ p ≤ 5 ∧ 1 ≤ l ∧ l ≤ 9999 then
    if fnd b.frames p < 0 then (if b.frames.length = 4 then (⟨[], 0⟩, false) else (⟨b.frames ++ [⟨p, true, l, l⟩], b.forced⟩, true))
    else match b.frames[(fnd b.frames p).toNat]? with
      | none => (⟨[], 0⟩, false)
      | some f => if l ≤ f.last then (⟨[], 0⟩, false) else (⟨b.frames.set (fnd b.frames p).toNat ⟨p, true, if f.dirty then f.first else l, l⟩, b.forced⟩, true)
  else (⟨[], 0⟩, false)
noncomputable def writeB (b : I_Buffer) (p : Int) : I_Buffer × Bool :=
  if cwP b p then match b.frames[(fnd b.frames p).toNat]? with
    | none => (⟨[], 0⟩, false)
    | some f => (⟨b.frames.set (fnd b.frames p).toNat ⟨p, false, 0, f.last⟩, b.forced⟩, true)
  else (⟨[], 0⟩, false)
section
variable {N : Nat} (hN : 100000000 ≤ N)
include hN
theorem touchI {b : I_Buffer} {p l : Int} (hb : b.frames.length ≤ 4000000) : m_I_TouchPage N b p l = some (touchB b p l) := by
  unfold m_I_TouchPage touchB
  rw [validI hN hb]
  by_cases hv : vB b
  case neg => simp [hv]
  by_cases h1 : p < 0
  · simp [hv, h1, Int.not_le.2 h1]
  by_cases h2 : 6 ≤ p
  · simp [hv, h1, h2, show ¬ p ≤ 5 by omega]
  by_cases h3 : l < 1
  · simp [hv, h1, h2, h3, Int.not_le.2 h3]
  by_cases h4 : 9999 < l
  · simp [hv, h1, h2, h3, h4, Int.not_le.2 h4]
  have hlen := hv.1
  have h5 : vB b ∧ 0 ≤ p ∧ p ≤ 5 ∧ 1 ≤ l ∧ l ≤ 9999 := ⟨hv, by omega, by omega, by omega, by omega⟩
  rw [if_pos h5]
  simp only [Option.bind_some, decide_eq_true hv, decide_eq_false h1, decide_eq_false h2, decide_eq_false h3, decide_eq_false h4, cond_true, cond_false, cloneI hb, find_eq hN hb]
  rcases fnd_spec b.frames p with ⟨h6, h7⟩ | ⟨i, hi, h6, h7, h8⟩
  · rw [h6]
    by_cases h9 : b.frames.length = 4
    · simp [h9]
    · have ha : appM 32 b.frames [(⟨p, false, 0, 0⟩ : I_Frame)] = some (b.frames ++ [⟨p, false, 0, 0⟩]) := appM_eq (by simp; omega)
      have hx : ixI (b.frames ++ [(⟨p, false, 0, 0⟩ : I_Frame)]) (b.frames.length : Int) = some ⟨p, false, 0, 0⟩ := by rw [ixI_nat (by simp)]; simp
      have h10 : ¬ l ≤ 0 := by omega
      have h11 : ¬ ((b.frames.length : Int) = 4) := by omega
      simp [h9, h11, ha, hx, h10]
  · have h9 : ¬ ((i : Int) < 0) := by omega
    have hx : ixI b.frames (i : Int) = some b.frames[i] := ixI_nat hi
    rw [h6]
    simp only [decide_eq_false h9, cond_false, hx, Option.bind_some, h9, if_false, Int.toNat_natCast, List.getElem?_eq_getElem hi]
    by_cases h10 : l ≤ b.frames[i].last
    · simp [h10]
    · cases hd : b.frames[i].dirty <;> simp [h10, hd, h7]
theorem touchS {b : I_Buffer} {p l : Int} (hb : b.frames.length ≤ 4000000) : m_S_TouchPage N b p l = some (touchB b p l) := by
  unfold m_S_TouchPage touchB
  rw [validS hN hb]
  by_cases hv : vB b
  case neg => simp [hv]
  by_cases h1 : 0 ≤ p ∧ p ≤ 5
  case neg =>
    have : ¬ (vB b ∧ 0 ≤ p ∧ p ≤ 5 ∧ 1 ≤ l ∧ l ≤ 9999) := fun h => h1 ⟨h.2.1, h.2.2.1⟩
    rw [if_neg this]
    simp only [Option.bind_some, decide_eq_true hv, cond_true, inRange_eq, decide_eq_false h1, cond_false]
  by_cases h2 : 1 ≤ l ∧ l ≤ 9999
  case neg =>
    have : ¬ (vB b ∧ 0 ≤ p ∧ p ≤ 5 ∧ 1 ≤ l ∧ l ≤ 9999) := fun h => h2 ⟨h.2.2.2.1, h.2.2.2.2⟩
    rw [if_neg this]
    simp only [Option.bind_some, decide_eq_true hv, cond_true, inRange_eq, decide_eq_true h1, decide_eq_false h2, cond_false]
  have hlen := hv.1
  rw [if_pos ⟨hv, h1.1, h1.2, h2.1, h2.2⟩]
  simp only [Option.bind_some, decide_eq_true hv, cond_true, inRange_eq, decide_eq_true h1, decide_eq_true h2, copyS hb, frameOf_eq hN hb]
  rcases fnd_spec b.frames p with ⟨h6, h7⟩ | ⟨i, hi, h6, h7, h8⟩
  · rw [h6]
    have ha : appM 32 b.frames [(⟨p, true, l, l⟩ : I_Frame)] = some (b.frames ++ [⟨p, true, l, l⟩]) := appM_eq (by simp; omega)
    by_cases h9 : b.frames.length = 4
    · simp [h9, ha]
    · have h11 : ¬ ((4 : Int) < ((b.frames ++ [(⟨p, true, l, l⟩ : I_Frame)]).length : Int)) := by simp; omega
      simp only [decide_eq_true (show (-1 : Int) < 0 by omega), cond_true, ha, Option.bind_some, decide_eq_false h11, cond_false, if_neg h9, if_pos (show (-1 : Int) < 0 by omega)]
  · have h9 : ¬ ((i : Int) < 0) := by omega
    have hx : ixI b.frames (i : Int) = some b.frames[i] := ixI_nat hi
    rw [h6]
    simp only [decide_eq_false h9, cond_false, hx, Option.bind_some, h9, if_false, Int.toNat_natCast, List.getElem?_eq_getElem hi]
    by_cases h10 : l ≤ b.frames[i].last
    · simp [h10]
    · cases hd : b.frames[i].dirty <;> simp [h10, hd, h7]
theorem writeI {b : I_Buffer} {p : Int} (hb : b.frames.length ≤ 4000000) : m_I_WritePage N b p = some (writeB b p) := by
  unfold m_I_WritePage writeB
  rw [canWriteI hN hb]
  by_cases h : cwP b p
  case neg => simp [h]
  have h' := h
  obtain ⟨hv, i, hi, h1, h2, h3⟩ := h
  have hp : b.frames[i].page = p := by
    rcases fnd_spec b.frames p with ⟨h6, h7⟩ | ⟨j, hj, h6, h7, h8⟩
    · omega
    · obtain rfl : i = j := by omega
      exact h7
  have hx : ixI b.frames (i : Int) = some b.frames[i] := ixI_nat hi
  rw [if_pos h']
  simp [h', cloneI hb, find_eq hN hb, h1, hx, List.getElem?_eq_getElem hi, hp]
theorem writeS {b : I_Buffer} {p : Int} (hb : b.frames.length ≤ 4000000) : m_S_WritePage N b p = some (writeB b p) := by
  unfold m_S_WritePage writeB
  rw [canWriteS hN hb]
  by_cases h : cwP b p
  case neg => simp [h]
  have h' := h
  obtain ⟨hv, i, hi, h1, h2, h3⟩ := h
  have hx : ixI b.frames (i : Int) = some b.frames[i] := ixI_nat hi
  rw [if_pos h']
  simp [h', copyS hb, frameOf_eq hN hb, h1, hx, List.getElem?_eq_getElem hi]
end
end V
end Go.Proofs.Ytifcacahgiihoaa
