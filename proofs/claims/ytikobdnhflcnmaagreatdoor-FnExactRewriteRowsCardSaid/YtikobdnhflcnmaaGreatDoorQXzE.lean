/- What the rows need, part 5. No condition. -/
import Derived.Test.YtikobdnhflcnmaaGreatDoorQXzD
namespace Go.Proofs.YtikobdnhflcnmaaGreatDoor
namespace V
set_option linter.unusedVariables false
set_option linter.unusedSimpArgs false
set_option maxHeartbeats 1000000
/-- A column that is valid. -/
def cV (c : I_Column) : Prop := (c.kind = 1 ∨ c.kind = 2) ∧ vV c.default ∧ (c.default.kind = 0 ∨ c.default.kind = c.kind)
noncomputable instance (c : I_Column) : Decidable (cV c) := Classical.propDecidable _
/-- A format that is valid. -/
def vF (f : List I_Column) : Prop := (1 ≤ f.length ∧ f.length ≤ 5) ∧ ∀ i (h : i < f.length), cV f[i]
noncomputable instance (f : List I_Column) : Decidable (vF f) := Classical.propDecidable _
/-- A change that is possible. -/
def poss (f : List I_Column) (c : I_Change) : Prop := (c.kind = 1 ∧ 0 ≤ c.at_ ∧ c.at_ ≤ f.length ∧ f.length < 5 ∧ cV c.column) ∨ (c.kind = 2 ∧ 0 ≤ c.at_ ∧ c.at_ < f.length ∧ 1 < f.length) ∨ (c.kind = 3 ∧ 0 ≤ c.at_ ∧ ∃ h : c.at_.toNat < f.length, f[c.at_.toNat].kind = 1)
noncomputable instance (f : List I_Column) (c : I_Change) : Decidable (poss f c) := Classical.propDecidable _
/-- A number made a text. -/
def wid (v : I_Value) : I_Value := if v.kind = 1 then ⟨2, 0, itoaB v.num⟩ else v
/-- A format after a change. -/
def chF (f : List I_Column) (c : I_Change) : List I_Column := if c.kind = 1 then f.insertIdx c.at_.toNat c.column else if c.kind = 2 then f.eraseIdx c.at_.toNat else f.modify c.at_.toNat fun x => ⟨2, wid x.default⟩
/-- A row after a change. -/
def mv (r : List I_Value) (c : I_Change) : List I_Value := if c.kind = 1 then r.insertIdx c.at_.toNat c.column.default else if c.kind = 2 then r.eraseIdx c.at_.toNat else r.modify c.at_.toNat wid
/-- A row has a format. -/
def fitP (f : List I_Column) (r : List I_Value) : Prop := r.length = f.length ∧ ∀ i (h : i < r.length) (h' : i < f.length), vV r[i] ∧ (r[i].kind = 0 ∨ r[i].kind = f[i].kind)
noncomputable instance (f : List I_Column) (r : List I_Value) : Decidable (fitP f r) := Classical.propDecidable _
/-- Texts are not too long. -/
def bS (f : List I_Column) : Prop := f.length ≤ 5000000 ∧ ∀ c ∈ f, c.default.text.size ≤ 5000000
/-- Numbers are not too large. -/
def bN (f : List I_Column) : Prop := ∀ c ∈ f, -1000000000 ≤ c.default.num ∧ c.default.num ≤ 1000000000
theorem vV_size {v : I_Value} (h : vV v) : v.text.size ≤ 12 := by
  rcases h with h | h | h
  · rw [h.2.2]; exact Nat.zero_le _
  · rw [h.2.2.2]; exact Nat.zero_le _
  · exact h.2.2.1
theorem vV_num {v : I_Value} (h : vV v) : -999999 ≤ v.num ∧ v.num ≤ 999999 := by rcases h with h | h | h <;> omega
theorem vV_wid {v : I_Value} (h : vV v) : vV (wid v) ∧ ((wid v).kind = 0 ∨ (wid v).kind = 2) := by
  unfold wid
  split
  · rename_i hk
    exact ⟨.inr (.inr ⟨rfl, rfl, itoaB_ok (vV_num h)⟩), .inr rfl⟩
  · rename_i hk
    exact ⟨h, by rcases h with h | h | h <;> omega⟩
theorem vF_bS {f : List I_Column} (h : vF f) : bS f := ⟨by have := h.1; omega, fun c hc => by
  obtain ⟨i, hi, rfl⟩ := List.mem_iff_getElem.1 hc
  have := vV_size (h.2 i hi).2.1; omega⟩
theorem vF_bN {f : List I_Column} (h : vF f) : bN f := fun c hc => by
  obtain ⟨i, hi, rfl⟩ := List.mem_iff_getElem.1 hc
  have := vV_num (h.2 i hi).2.1; omega
theorem wid_num {v : I_Value} (h : -1000000000 ≤ v.num ∧ v.num ≤ 1000000000) : -1000000000 ≤ (wid v).num ∧ (wid v).num ≤ 1000000000 := by
  unfold wid; split
  · dsimp only; omega
  · exact h
theorem poss_at {f : List I_Column} {c : I_Change} (h : poss f c) : 0 ≤ c.at_ ∧ c.at_ ≤ f.length := by
  rcases h with h | h | ⟨h1, h2, h3, h4⟩ <;> omega
theorem bN_chF {f : List I_Column} {c : I_Change} (h : bN f) (hp : poss f c) : bN (chF f c) := by
  intro x hx
  unfold chF at hx
  rcases hp with ⟨k, h1, h2, h3, h4⟩ | ⟨k, h1, h2, h3⟩ | ⟨k, h1, h2, h3⟩
  · rw [if_pos k, List.mem_insertIdx (by omega)] at hx
    rcases hx with rfl | hx
    · have := vV_num h4.2.1; omega
    · exact h x hx
  · rw [if_neg (by omega), if_pos k] at hx
    exact h x (List.mem_of_mem_eraseIdx hx)
  · rw [if_neg (by omega), if_neg (by omega)] at hx
    obtain ⟨i, hi, rfl⟩ := List.mem_iff_getElem.1 hx
    rw [List.getElem_modify]
    split
    · exact wid_num (h _ (List.getElem_mem _))
    · exact h _ (List.getElem_mem _)
theorem vF_chF {f : List I_Column} {c : I_Change} (h : vF f) (hp : poss f c) : vF (chF f c) := by
  unfold chF
  obtain ⟨hl, h⟩ := h
  rcases hp with ⟨k, h1, h2, h3, h4⟩ | ⟨k, h1, h2, h3⟩ | ⟨k, h1, h2, h3⟩
  · rw [if_pos k]
    refine ⟨by rw [List.length_insertIdx]; split <;> omega, fun i hi => ?_⟩
    rw [List.getElem_insertIdx]
    split
    · exact h _ _
    · split
      · exact h4
      · exact h _ _
  · rw [if_neg (by omega), if_pos k]
    refine ⟨by rw [List.length_eraseIdx]; split <;> omega, fun i hi => ?_⟩
    rw [List.getElem_eraseIdx]
    split <;> exact h _ _
  · rw [if_neg (by omega), if_neg (by omega)]
    refine ⟨by rw [List.length_modify]; omega, fun i hi => ?_⟩
    rw [List.getElem_modify]
    split
    · have := vV_wid (h i (by rw [List.length_modify] at hi; exact hi)).2.1
      exact ⟨.inr rfl, this.1, this.2⟩
    · exact h _ _
theorem fit_mv {f : List I_Column} {c : I_Change} {r : List I_Value} (h : fitP f r) (hp : poss f c) : fitP (chF f c) (mv r c) := by
  obtain ⟨hl, h⟩ := h
  unfold chF mv
  rcases hp with ⟨k, h1, h2, h3, h4⟩ | ⟨k, h1, h2, h3⟩ | ⟨k, h1, h2, h3⟩
  · rw [if_pos k, if_pos k]
    refine ⟨by rw [List.length_insertIdx, List.length_insertIdx, hl], fun i hi hi' => ?_⟩
    rw [List.length_insertIdx, if_pos (by omega)] at hi hi'
    rw [List.getElem_insertIdx, List.getElem_insertIdx]
    by_cases a1 : i < c.at_.toNat
    · rw [dif_pos a1, dif_pos a1]; exact h _ _ _
    · rw [dif_neg a1, dif_neg a1]
      by_cases a2 : i = c.at_.toNat
      · rw [dif_pos a2, dif_pos a2]; exact ⟨h4.2.1, h4.2.2⟩
      · rw [dif_neg a2, dif_neg a2]; exact h _ _ _
  · rw [if_neg (by omega), if_pos k, if_neg (by omega), if_pos k]
    refine ⟨by rw [List.length_eraseIdx, List.length_eraseIdx, hl], fun i hi hi' => ?_⟩
    rw [List.getElem_eraseIdx, List.getElem_eraseIdx]
    split <;> exact h _ _ _
  · rw [if_neg (by omega), if_neg (by omega), if_neg (by omega), if_neg (by omega)]
    refine ⟨by rw [List.length_modify, List.length_modify, hl], fun i hi hi' => ?_⟩
    rw [List.length_modify] at hi hi'
    rw [List.getElem_modify, List.getElem_modify]
    by_cases a : c.at_.toNat = i
    · rw [if_pos a, if_pos a]
      exact vV_wid (h i hi hi').1
    · rw [if_neg a, if_neg a]; exact h _ _ _
theorem mod_eq {α : Type} {xs : List α} {i : Nat} {f : α → α} (h : i < xs.length) : xs.modify i f = xs.set i (f xs[i]) := by
  apply List.ext_getElem
  · rw [List.length_modify, List.length_set]
  · intro k h1 h2
    rw [List.getElem_modify, List.getElem_set]
    by_cases a : i = k
    · subst a; simp
    · rw [if_neg a, if_neg a]
theorem ins_eq {α : Type} {xs : List α} {i : Nat} {a : α} (h : i ≤ xs.length) : xs.take i ++ a :: xs.drop i = xs.insertIdx i a := by
  apply List.ext_getElem
  · rw [List.length_insertIdx, if_pos h]; simp; omega
  · intro k h1 h2
    rw [List.getElem_insertIdx]
    by_cases a1 : k < i
    · rw [dif_pos a1, List.getElem_append_left (by simp; omega), List.getElem_take]
    · rw [dif_neg a1, List.getElem_append_right (by simp; omega)]
      simp only [List.length_take, Nat.min_eq_left h]
      by_cases a2 : k = i
      · subst a2; simp
      · rw [dif_neg a2]
        obtain ⟨m, hm⟩ : ∃ m, k - i = m + 1 := ⟨k - i - 1, by omega⟩
        simp only [hm, List.getElem_cons_succ, List.getElem_drop]
        congr 1; omega
theorem insM_eq {α : Type} {w : Nat} {xs : List α} {i : Int} {a : α} (h : 0 ≤ i ∧ i ≤ (xs.length : Int)) (hw : (xs.length + 1) * w ≤ 140737488355328 ∧ xs.length + 1 ≤ 4611686018427387904) : insM w xs i a = some (xs.insertIdx i.toNat a) := by
  unfold insM; rw [if_pos ⟨h.1, h.2, hw.1, hw.2⟩, ins_eq (by omega)]
theorem delM_eq {α : Type} {xs : List α} {i : Int} (h : 0 ≤ i ∧ i < (xs.length : Int)) : delM xs i (i + 1) = some (xs.eraseIdx i.toNat) := by
  unfold delM; rw [if_pos ⟨h.1, by omega, by omega, by omega⟩, List.eraseIdx_eq_take_drop_succ]
  congr 3; omega
theorem appM0 {α : Type} {w : Nat} {xs : List α} (h : xs.length * w ≤ 140737488355328 ∧ xs.length ≤ 4611686018427387904) : appM w [] xs = some xs := by
  rw [appM_eq (by simpa using h)]; rfl
section
variable {N : Nat} (hN : 100000000 ≤ N)
include hN
theorem cVI {c : I_Column} (h : c.default.text.size ≤ 5000000) : m_I_Column_valid N c = some (decide (cV c)) := by
  refine bool_eq ?_
  unfold m_I_Column_valid cV
  refine ok.ite (fun k1 => ok.eq (vVI hN h) (ok.ite (fun n0 => ok.ite (fun n1 => ok.some ?_) fun n1 => ok.some ?_) fun n0 => ok.some ?_)) fun k1 => ok.ite (fun k2 => ok.eq (vVI hN h) (ok.ite (fun n0 => ok.ite (fun n1 => ok.some ?_) fun n1 => ok.some ?_) fun n0 => ok.some ?_)) fun k2 => ok.some ?_
  · exact ⟨fun _ => ⟨.inl k1, n0, .inr n1⟩, fun _ => rfl⟩
  · rw [decide_eq_true_eq]; exact ⟨fun e => ⟨.inl k1, n0, .inl e⟩, fun e => by rcases e.2.2 with e | e; exact e; exact (n1 e).elim⟩
  · exact ⟨fun e => (by cases e), fun e => (n0 e.2.1).elim⟩
  · exact ⟨fun _ => ⟨.inr k2, n0, .inr n1⟩, fun _ => rfl⟩
  · rw [decide_eq_true_eq]; exact ⟨fun e => ⟨.inr k2, n0, .inl e⟩, fun e => by rcases e.2.2 with e | e; exact e; exact (n1 e).elim⟩
  · exact ⟨fun e => (by cases e), fun e => (n0 e.2.1).elim⟩
  · exact ⟨fun e => (by cases e), fun e => by rcases e.1 with e | e; exact (k1 e).elim; exact (k2 e).elim⟩
theorem cVS {c : I_Column} (h : c.default.text.size ≤ 5000000) : m_S_validColumn N c = some (decide (cV c)) := by
  refine bool_eq ?_
  unfold m_S_validColumn cV
  refine ok.eq (inRange_eq N _ _ _) (ok.ite (fun k1 => ok.eq (vVS hN h) (ok.ite (fun n0 => ok.ite (fun n1 => ok.some ?_) fun n1 => ok.some ?_) fun n0 => ok.some ?_)) fun k2 => ok.some ?_)
  · exact ⟨fun _ => ⟨by omega, n0, .inl n1⟩, fun _ => rfl⟩
  · rw [decide_eq_true_eq]; exact ⟨fun e => ⟨by omega, n0, .inr e⟩, fun e => by rcases e.2.2 with e | e; exact (n1 e).elim; exact e⟩
  · exact ⟨fun e => (by cases e), fun e => (n0 e.2.1).elim⟩
  · exact ⟨fun e => (by cases e), fun e => by omega⟩
theorem vFI {f : List I_Column} (h : bS f) : m_I_ValidFormat N f = some (decide (vF f)) := by
  have hl := h.1
  refine bool_eq ?_
  unfold m_I_ValidFormat vF
  refine ok.ite (fun h1 => ok.some ⟨fun e => (by cases e), fun e => by omega⟩) fun h1 => ok.ite (fun h2 => ok.some ⟨fun e => (by cases e), fun e => by omega⟩) fun h2 => ?_
  refine ok.call (all_ok (n := f.length) 0 (fun i => ∀ h : i < f.length, cV f[i]) (by omega) (fun i hi _ => ?_) ?_) ?_
  · rw [Int.add_zero]
    show ok (m_I_ValidFormat_b1 N f (i : Int)) _
    unfold m_I_ValidFormat_b1
    refine ok.ift (by omega) (ok.eq (ixI_nat hi) (ok.eq (cVI hN (h.2 _ (List.getElem_mem _))) (ok.ite (fun hc => ok.chk (by omega) (ok.some (.inl ⟨rfl, fun _ => hc⟩))) fun hc => ok.some (.inr ⟨rfl, fun e => hc (e hi)⟩))))
  · rw [Int.add_zero]
    show m_I_ValidFormat_b1 N f _ = _
    unfold m_I_ValidFormat_b1
    rw [decide_eq_false (by omega)]; rfl
  · rintro o (⟨rfl, hh⟩ | ⟨rfl, hh⟩)
    · exact ok.some ⟨fun _ => ⟨by omega, fun i hi => hh i hi hi⟩, fun _ => rfl⟩
    · exact ok.some ⟨fun e => (by cases e), fun e => (hh fun k hk h => e.2 k h).elim⟩
theorem vFS {f : List I_Column} (h : bS f) : m_S_validFormat N f = some (decide (vF f)) := by
  have hl := h.1
  refine bool_eq ?_
  unfold m_S_validFormat vF
  refine ok.call (all_ok (n := f.length) 0 (fun i => ∀ h : i < f.length, cV f[i]) (by omega) (fun i hi _ => ?_) ?_) ?_
  · rw [Int.add_zero]
    show ok (m_S_validFormat_b1 N f (i : Int)) _
    unfold m_S_validFormat_b1
    refine ok.ift (by omega) (ok.eq (ixI_nat hi) (ok.eq (cVS hN (h.2 _ (List.getElem_mem _))) (ok.ite (fun hc => ok.chk (by omega) (ok.some (.inl ⟨rfl, fun _ => hc⟩))) fun hc => ok.some (.inr ⟨rfl, fun e => hc (e hi)⟩))))
  · rw [Int.add_zero]
    show m_S_validFormat_b1 N f _ = _
    unfold m_S_validFormat_b1
    rw [decide_eq_false (by omega)]; rfl
  · rintro o (⟨rfl, hh⟩ | ⟨rfl, hh⟩)
    · refine ok.eq (inRange_eq N _ _ _) (ok.some ?_)
      rw [decide_eq_true_eq]
      exact ⟨fun e => ⟨by omega, fun i hi => hh i hi hi⟩, fun e => by omega⟩
    · exact ok.some ⟨fun e => (by cases e), fun e => (hh fun k hk h => e.2 k h).elim⟩
theorem possI {f : List I_Column} {c : I_Change} (h : c.column.default.text.size ≤ 5000000) : m_I_Change_possible N c f = some (decide (poss f c)) := by
  refine bool_eq ?_
  unfold m_I_Change_possible poss
  refine ok.ite (fun k1 => ok.ite (fun a1 => ok.ite (fun a2 => ok.ite (fun a3 => ok.eq (cVI hN h) (ok.some ?_)) fun a3 => ok.some ?_) fun a2 => ok.some ?_) fun a1 => ok.some ?_) fun k1 => ok.ite (fun k2 => ok.ite (fun a1 => ok.ite (fun a2 => ok.some ?_) fun a2 => ok.some ?_) fun a1 => ok.some ?_) fun k2 => ok.ite (fun k3 => ok.ite (fun a1 => ok.ite (fun a2 => ok.ix a1 a2 fun n hn he => ok.some ?_) fun a2 => ok.some ?_) fun a1 => ok.some ?_) fun k3 => ok.some ?_
  · rw [decide_eq_true_eq]; exact ⟨fun e => .inl ⟨k1, a1, a2, by omega, e⟩, fun e => by rcases e with e | e | e; exact e.2.2.2.2; omega; omega⟩
  · exact ⟨fun e => (by cases e), fun e => by omega⟩
  · exact ⟨fun e => (by cases e), fun e => by omega⟩
  · exact ⟨fun e => (by cases e), fun e => by omega⟩
  · rw [decide_eq_true_eq]; exact ⟨fun e => .inr (.inl ⟨k2, a1, a2, by omega⟩), fun e => by omega⟩
  · exact ⟨fun e => (by cases e), fun e => by omega⟩
  · exact ⟨fun e => (by cases e), fun e => by omega⟩
  · have he' : c.at_.toNat = n := by omega
    subst he'
    rw [decide_eq_true_eq]; exact ⟨fun e => .inr (.inr ⟨k3, a1, hn, e⟩), fun e => by rcases e with e | e | ⟨e1, e2, e3, e4⟩; omega; omega; exact e4⟩
  · exact ⟨fun e => (by cases e), fun e => by rcases e with e | e | ⟨e1, e2, e3, e4⟩ <;> omega⟩
  · exact ⟨fun e => (by cases e), fun e => by omega⟩
  · exact ⟨fun e => (by cases e), fun e => by omega⟩
theorem widI {v : I_Value} (h : vV v) : m_I_WidenValue N v = some (wid v) := by
  have hs := vV_size h
  have hn := vV_num h
  refine ok.val ?_
  unfold m_I_WidenValue wid
  refine ok.eq (vVI hN (by omega)) (ok.ift h (ok.ite (fun k => ok.eq (v := itoaB v.num) ?_ (ok.some ?_)) fun k => ok.some ?_))
  · unfold m_strconv_Itoa; rw [if_pos (by omega)]
  · rw [if_pos k]
  · rw [if_neg k]
theorem widS {v : I_Value} (h : -1000000000 ≤ v.num ∧ v.num ≤ 1000000000) : m_S_widen N v = some (wid v) := by
  refine ok.val ?_
  unfold m_S_widen wid
  refine ok.ite (fun k => ok.eq (decimal_ok (by omega) h) (ok.some ?_)) fun k => ok.some ?_
  · rw [if_pos k]
  · rw [if_neg k]
theorem chFI {f : List I_Column} {c : I_Change} (h : bS f) (hc : c.column.default.text.size ≤ 5000000) : m_I_ChangeFormat N f c = some (if vF f ∧ poss f c then (chF f c, true) else ([], false)) := by
  refine ok.val ?_
  unfold m_I_ChangeFormat
  refine ok.eq (vFI hN h) (ok.ite (fun hv => ok.eq (possI hN hc) (ok.ite (fun hp => ?_) fun hp => ok.some ?_)) fun hv => ok.some ?_)
  · rw [if_pos ⟨hv, hp⟩]
    have hl := hv.1
    refine ok.eq (show m_slices_Clone_I_Column N f = some f from appM0 (by omega)) ?_
    unfold chF
    rcases hp with ⟨k, h1, h2, h3, h4⟩ | ⟨k, h1, h2, h3⟩ | ⟨k, h1, h2, h3⟩
    · refine ok.ift k (ok.eq (insM_eq ⟨h1, h2⟩ (by omega)) (ok.some ?_))
      rw [if_pos k]
    · refine ok.iff (by omega) (ok.ift k (ok.chk (by omega) (ok.eq (delM_eq ⟨h1, h2⟩) (ok.some ?_))))
      rw [if_neg (by omega), if_pos k]
    · refine ok.iff (by omega) (ok.iff (by omega) (ok.eq (ixI_eq (n := c.at_.toNat) (by omega) h2) (ok.eq (widI hN (hv.2 _ _).2.1) (ok.some ?_))))
      rw [if_neg (by omega), if_neg (by omega), mod_eq h2]
  · rw [if_neg fun e => hp e.2]
  · rw [if_neg fun e => hv e.1]
theorem chFS {f : List I_Column} {c : I_Change} (hl : f.length ≤ 5000000) (h : bN f) (hc : c.column.default.text.size ≤ 5000000) : m_S_change N f c = some (if poss f c then (chF f c, true) else ([], false)) := by
  refine ok.val ?_
  unfold m_S_change
  have hcp : ∀ g : List I_Column, g.length ≤ 5000000 → m_S_copyColumns N g = some g := fun g hg => by
    unfold m_S_copyColumns
    rw [appM0 (by omega)]; rfl
  refine ok.ite (fun k => ok.eq (inRange_eq N _ _ _) (ok.ite (fun a => ok.eq (cVS hN hc) (ok.ite (fun b => ok.ite (fun l => ?_) fun l => ok.some ?_) fun b => ok.some ?_)) fun a => ok.some ?_)) fun k => ok.ite (fun k2 => ok.chk (by omega) (ok.eq (inRange_eq N _ _ _) (ok.ite (fun a => ok.ite (fun l => ?_) fun l => ok.some ?_) fun a => ok.some ?_))) fun k2 => ok.ite (fun k3 => ok.chk (by omega) (ok.eq (inRange_eq N _ _ _) (ok.ite (fun a => ok.ix (by omega) (by omega) fun n hn he => ok.ite (fun k1 => ok.eq (hcp _ hl) (ok.eq (ixI_eq he hn) (ok.eq (widS hN (h _ (List.getElem_mem _))) (ok.eq (ixI_eq he hn) (ok.some ?_))))) fun k1 => ok.some ?_) fun a => ok.some ?_))) fun k3 => ok.some ?_
  · have hp : poss f c := .inl ⟨k, a.1, a.2, by omega, b⟩
    rw [if_pos hp]
    refine ok.eq (subM_eq (by omega)) (ok.eq (hcp _ (by simp; omega)) (ok.app (by simp; omega) (ok.eq (subM_eq (by omega)) (ok.app (by simp; omega) (ok.some ?_)))))
    unfold chF
    rw [if_pos k, ← ins_eq (by omega)]
    simp only [Int.toNat_zero, List.drop_zero, Nat.sub_zero, List.append_assoc, List.singleton_append]
    congr 4
    exact List.take_of_length_le (by simp)
  · rw [if_neg]; rintro (e | e | ⟨e1, e2, e3, e4⟩) <;> omega
  · rw [if_neg]; rintro (e | e | ⟨e1, e2, e3, e4⟩); exact b e.2.2.2.2; omega; omega
  · rw [if_neg]; rintro (e | e | ⟨e1, e2, e3, e4⟩) <;> omega
  · have hp : poss f c := .inr (.inl ⟨k2, a.1, by omega, by omega⟩)
    rw [if_pos hp]
    refine ok.eq (subM_eq (by omega)) (ok.eq (hcp _ (by simp; omega)) (ok.chk (by omega) (ok.eq (subM_eq (by omega)) (ok.app (by simp; omega) (ok.some ?_)))))
    unfold chF
    rw [if_neg (by omega), if_pos k2, List.eraseIdx_eq_take_drop_succ]
    simp only [Int.toNat_zero, List.drop_zero, Nat.sub_zero]
    have e : (c.at_ + 1).toNat = c.at_.toNat + 1 := by omega
    rw [e]
    congr 2
    exact List.take_of_length_le (by simp)
  · rw [if_neg]; rintro (e | e | ⟨e1, e2, e3, e4⟩) <;> omega
  · rw [if_neg]; rintro (e | e | ⟨e1, e2, e3, e4⟩) <;> omega
  · obtain rfl : n = c.at_.toNat := by omega
    have hp : poss f c := .inr (.inr ⟨k3, by omega, hn, k1⟩)
    rw [if_pos hp]
    unfold chF
    rw [if_neg (by omega), if_neg (by omega), mod_eq hn]
  · obtain rfl : n = c.at_.toNat := by omega
    rw [if_neg]; rintro (e | e | ⟨e1, e2, e3, e4⟩); omega; omega; exact k1 e4
  · rw [if_neg]; rintro (e | e | ⟨e1, e2, e3, e4⟩) <;> omega
  · rw [if_neg]; rintro (e | e | ⟨e1, e2, e3, e4⟩) <;> omega
end
end V
end Go.Proofs.YtikobdnhflcnmaaGreatDoor
namespace Go.Proofs.YtikobdnhflcnmaaGreatDoor
namespace V
open Enc (enc)
set_option linter.unusedVariables false
set_option linter.unusedSimpArgs false
set_option maxHeartbeats 4000000
set_option maxRecDepth 100000
open Go.RowKit
attribute [local irreducible] thA inA FinA eL
def m_slices_Clone_I_Value (N : Nat) (p_s : List I_Value) : Option (List I_Value) := appM 32 ([] : List I_Value) p_s
theorem w_slices_Clone_I_Value (N : Nat) (p_s : List I_Value) (r : List I_Value) (hh0 : m_slices_Clone_I_Value N p_s = some r) : FnX Tryz.prog 63 [] [sL p_s] (RE (.os 0 0 r.length) [⟨.tr (eL r), 84, 3⟩]) := by
  unfold m_slices_Clone_I_Value at hh0; have hr := (appM_spec hh0).1
  simp only [List.nil_append] at hr
  refine FnX.mk Tryz.func63 rfl rfl ?_; intro s hs; refine PC.seq ?_; refine PC.region ?_; refine PL.op rfl (Rd.asnT rfl) ?_; refine PL.nil ?_; refine thA_n ?_; (iterate 2 refine PC.seq ?_); refine PC.region ?_; refine PL.op rfl (Rd.moveT rfl) ?_; refine PL.eqNil rfl rfl rfl ?_; intro b hb; refine PL.nil ?_; refine thA_n ?_
  cases b with
  | true =>
    have h0 : p_s = [] := List.eq_nil_of_length_eq_zero (hb rfl); subst h0; subst hr; refine PC.cond_true rfl rfl ?_; refine PC.seq ?_; refine PC.region ?_; refine PL.op rfl (Rd.asnT rfl) ?_; refine PL.nil ?_; refine thA_n ?_; refine PC.ret ?_; refine thA_r ?_; exact FinA.mk (r := .os 0 0 0) (bl := [⟨.tr (eL ([] : List I_Value)), 84, 3⟩]) [none] (.inl rfl) rfl (rl := [.tmp 2]) (.tmp .nil) rfl rfl rfl (.osn rfl) ⟨ow_nil _, trivial⟩ ⟨rfl, rfl⟩
  | false =>
    clear hr
    refine PC.cond_false rfl rfl ?_; refine PC.skip ?_; refine thA_n ?_; refine PC.seq ?_; refine PC.region ?_; refine PL.ef rfl (Ef.lit0M I_Value) ?_; refine PL.op rfl (Rd.moveT rfl) ?_; refine PL.apM hs rfl rfl rfl rfl (SrcA.eL rfl) rfl rfl rfl rfl hh0 ?_; refine PL.op rfl (Rd.asnO rfl) ?_; refine PL.nil ?_; refine thA_n ?_; refine PC.ret ?_; exact FinA.mk (r := .os 0 0 r.length) (bl := [⟨.tr (eL r), 84, 3⟩]) [some 1] (.inl rfl) rfl (rl := [.tmp 2]) (.tmp .nil) rfl rfl rfl (.os rfl) ⟨⟨_, rfl, rfl, rfl, .tr _⟩, trivial⟩ ⟨rfl, rfl⟩
def m_I_ChangeRow (N : Nat) (p_f : (List I_Column)) (p_row : (List I_Value)) (p_c : I_Change) : Option ((List I_Value) × Bool) :=
  (m_I_RowFits N p_f p_row).bind fun r1 =>
  cond r1
    ((m_I_Change_possible N p_c p_f).bind fun r4 =>
    cond r4
      ((m_slices_Clone_I_Value N p_row).bind fun r7 =>
      cond (decide (p_c.kind = (1 : Int)))
        ((insM 32 r7 p_c.at_ p_c.column.default).bind fun xs10 =>
        some (xs10, true))
        (cond (decide (p_c.kind = (2 : Int)))
          ((chk (p_c.at_ + (1 : Int))).bind fun n13 =>
          (delM r7 p_c.at_ n13).bind fun xs15 =>
          some (xs15, true))
          ((ixI r7 p_c.at_).bind fun x17 =>
          (m_I_WidenValue N x17).bind fun r19 =>
          some ((r7.set p_c.at_.toNat r19), true))))
      (some (([] : List I_Value), false)))
    (some (([] : List I_Value), false))
theorem w_I_ChangeRow (N : Nat) (p_f : (List I_Column)) (p_row : (List I_Value)) (p_c : I_Change) (r : (List I_Value) × Bool) (hh0 : m_I_ChangeRow N p_f p_row p_c = some r) : FnX Tryz.prog 74 [] [sL p_f, sL p_row, .agg [iA p_c.kind, iA p_c.at_, iA p_c.column.kind, iA p_c.column.default.kind, iA p_c.column.default.num, sA p_c.column.default.text]] (RE (.tup [.os 0 0 r.1.length, bA r.2]) [⟨.tr (eL r.1), 84, 3⟩]) := by
  unfold m_I_ChangeRow at hh0; refine FnX.mk Tryz.func74 rfl rfl ?_; intro s hs; refine PC.seq ?_; refine PC.region ?_; refine PL.ef rfl (Ef.box rfl rfl rfl) ?_; refine PL.nm (.op 0 0) [some ⟨.mx [iA p_c.kind, iA p_c.at_, iA p_c.column.kind, iA p_c.column.default.kind, iA p_c.column.default.num, sA p_c.column.default.text], 89, 0⟩] rfl rfl ?_; (iterate 2 refine PL.op rfl (Rd.asnT rfl) ?_); refine PL.nil ?_; refine thA_n ?_; (iterate 2 refine PC.seq ?_); obtain ⟨r1, h_2, hh0⟩ := bind_some hh0; rcases cond_some hh0 with ⟨h_3, hh0⟩ | ⟨h_3, hh0⟩; rotate_left
  · refine PC.region ?_; (iterate 2 refine PL.op rfl (Rd.moveT rfl) ?_); refine PL.callM false [] (w_I_RowFits N p_f p_row r1 h_2) rfl Tryz.call73 rfl ⟨.t _, .t _, trivial⟩ rfl trivial (fun h => by cases h) ?_; refine PL.op rfl (Rd.unnot rfl) ?_; refine PL.op rfl (Rd.moveT rfl) ?_; (iterate 4 refine PL.guard_off rfl rfl (not_f h_3) ?_); refine PL.op rfl (Rd.pick_t rfl (not_f h_3)) ?_; refine PL.nil ?_; refine thA_n ?_; refine PC.cond_true rfl rfl ?_; refine PC.seq ?_; refine PC.region ?_; (iterate 2 refine PL.op rfl (Rd.asnT rfl) ?_); refine PL.nil ?_; refine thA_n ?_; refine PC.ret ?_; refine thA_r ?_; obtain rfl := some_in hh0; exact FinA.mk (r := .tup [.os 0 0 (((([] : List I_Value), false).1).length), bA ((([] : List I_Value), false).2)]) (bl := [⟨.tr (eL ((([] : List I_Value), false).1)), 84, 3⟩]) [none] (.inl rfl) rfl (rl := [.tmp 6, .tmp 7]) (.tmp (.tmp .nil)) rfl rfl rfl (.tupL ⟨.osn rfl, .t _, trivial⟩) ⟨ow_nil _, trivial⟩ ⟨rfl, rfl⟩
  obtain ⟨r4, h_5, hh0⟩ := bind_some hh0; refine PC.region ?_; (iterate 2 refine PL.op rfl (Rd.moveT rfl) ?_); refine PL.callM false [] (w_I_RowFits N p_f p_row r1 h_2) rfl Tryz.call73 rfl ⟨.t _, .t _, trivial⟩ rfl trivial (fun h => by cases h) ?_; refine PL.op rfl (Rd.unnot rfl) ?_; refine PL.op rfl (Rd.moveT rfl) ?_; refine PL.guard_on rfl (not_t h_3) ?_; refine PL.op rfl (Rd.loadBox rfl rfl rfl) ?_; refine PL.guard_on rfl (not_t h_3) ?_; refine PL.op rfl (Rd.moveT rfl) ?_; refine PL.guard_on rfl (not_t h_3) ?_; refine PL.callM false [] (w_I_Change_possible N p_c p_f r4 h_5) rfl Tryz.call81 rfl ⟨.aggL ⟨.t _, .t _, .t _, .t _, .t _, .t _, trivial⟩, .t _, trivial⟩ rfl trivial (fun h => by cases h) ?_; refine PL.guard_on rfl (not_t h_3) ?_; refine PL.op rfl (Rd.unnot rfl) ?_; refine PL.op rfl (Rd.pick_f rfl (not_t h_3)) ?_; refine PL.nil ?_; refine thA_n ?_; rcases cond_some hh0 with ⟨h_6, hh0⟩ | ⟨h_6, hh0⟩; rotate_left
  · refine PC.cond_true rfl (not_f h_6) ?_; refine PC.seq ?_; refine PC.region ?_; (iterate 2 refine PL.op rfl (Rd.asnT rfl) ?_); refine PL.nil ?_; refine thA_n ?_; refine PC.ret ?_; refine thA_r ?_; obtain rfl := some_in hh0; exact FinA.mk (r := .tup [.os 0 0 (((([] : List I_Value), false).1).length), bA ((([] : List I_Value), false).2)]) (bl := [⟨.tr (eL ((([] : List I_Value), false).1)), 84, 3⟩]) [none] (.inl rfl) rfl (rl := [.tmp 6, .tmp 7]) (.tmp (.tmp .nil)) rfl rfl rfl (.tupL ⟨.osn rfl, .t _, trivial⟩) ⟨ow_nil _, trivial⟩ ⟨rfl, rfl⟩
  refine PC.cond_false rfl (not_t h_6) ?_; refine PC.skip ?_; refine thA_n ?_; refine PC.seq ?_; obtain ⟨r7, h_8, hh0⟩ := bind_some hh0; refine PC.region ?_; refine PL.op rfl (Rd.moveT rfl) ?_; refine PL.callM false [] (w_slices_Clone_I_Value N p_row r7 h_8) rfl Tryz.call63 rfl ⟨.t _, trivial⟩ rfl trivial (fun h => by cases h) ?_; refine PL.nm (.os 1 0 r7.length) [some ⟨.mx [iA p_c.kind, iA p_c.at_, iA p_c.column.kind, iA p_c.column.default.kind, iA p_c.column.default.num, sA p_c.column.default.text], 89, 0⟩, some ⟨.tr (eL r7), 84, 3⟩] rfl rfl ?_; refine PL.op rfl (Rd.asnO rfl) ?_; refine PL.nil ?_; refine thA_n ?_; (iterate 2 refine PC.seq ?_); refine PC.region ?_; refine PL.op rfl (Rd.fieldO rfl rfl) ?_; refine PL.op rfl (Rd.loadO rfl rfl rfl) ?_; refine PL.nil ?_; refine thA_n ?_; refine PC.block ?_; refine PC.seq ?_; refine PC.region ?_; refine PL.op rfl (Rd.eql rfl rfl) ?_; refine PL.op rfl (Rd.asnT rfl) ?_; refine PL.nil ?_; refine thA_n ?_; rcases cond_some hh0 with ⟨h_9, hh0⟩ | ⟨h_9, hh0⟩
  · refine PC.cond_true rfl h_9 ?_; obtain ⟨xs10, h_11, hh0⟩ := bind_some hh0; refine PC.region ?_; refine PL.op rfl (Rd.moveO rfl) ?_; refine PL.op rfl (Rd.fieldO rfl rfl) ?_; refine PL.op rfl (Rd.loadO rfl rfl rfl) ?_; (iterate 2 refine PL.op rfl (Rd.fieldO rfl rfl) ?_); refine PL.op rfl (Rd.loadSub rfl rfl rfl rfl) ?_; refine PL.ef rfl (Ef.litM (α := I_Value) [p_c.column.default] [_] rfl rfl (by decide) rfl rfl rfl rfl) ?_; refine PL.nm (.os 2 0 1) [some ⟨.mx [iA p_c.kind, iA p_c.at_, iA p_c.column.kind, iA p_c.column.default.kind, iA p_c.column.default.num, sA p_c.column.default.text], 89, 0⟩, some ⟨.tr (eL r7), 84, 3⟩, some ⟨.tr (eL [p_c.column.default]), 84, 3⟩] rfl rfl ?_; refine PL.ins_Value hs rfl rfl rfl rfl rfl rfl rfl rfl rfl h_11 ?_; refine PL.nm (.os 3 0 xs10.length) [some ⟨.mx [iA p_c.kind, iA p_c.at_, iA p_c.column.kind, iA p_c.column.default.kind, iA p_c.column.default.num, sA p_c.column.default.text], 89, 0⟩, none, some ⟨.tr (eL [p_c.column.default]), 84, 3⟩, some ⟨.tr (eL xs10), 84, 3⟩] rfl rfl ?_; refine PL.op rfl (Rd.asnO rfl) ?_; refine PL.nil ?_; refine inA_n ?_; refine thA_n ?_; refine PC.seq ?_; refine PC.region ?_; refine PL.op rfl (Rd.moveO rfl) ?_; refine PL.op rfl (Rd.asnO rfl) ?_; refine PL.op rfl (Rd.asnT rfl) ?_; refine PL.nil ?_; refine thA_n ?_; refine PC.ret ?_; obtain rfl := some_in hh0; exact FinA.mk (r := .tup [.os 0 0 (((xs10, true).1).length), bA ((xs10, true).2)]) (bl := [⟨.tr (eL ((xs10, true).1)), 84, 3⟩]) [some 3] (.inl rfl) rfl (rl := [.tmp 6, .tmp 7]) (.tmp (.tmp .nil)) rfl rfl rfl (.tupL ⟨.os rfl, .t _, trivial⟩) ⟨⟨_, rfl, rfl, rfl, .tr _⟩, trivial⟩ ⟨rfl, rfl⟩
  refine PC.cond_false rfl h_9 ?_; refine PC.seq ?_; refine PC.region ?_; refine PL.op rfl (Rd.eql rfl rfl) ?_; refine PL.op rfl (Rd.asnT rfl) ?_; refine PL.nil ?_; refine thA_n ?_; rcases cond_some hh0 with ⟨h_12, hh0⟩ | ⟨h_12, hh0⟩
  · refine PC.cond_true rfl h_12 ?_; obtain ⟨n13, h_14, hh0⟩ := bind_some hh0; obtain ⟨xs15, h_16, hh0⟩ := bind_some hh0; refine PC.region ?_; refine PL.op rfl (Rd.moveO rfl) ?_; refine PL.op rfl (Rd.fieldO rfl rfl) ?_; refine PL.op rfl (Rd.loadO rfl rfl rfl) ?_; refine PL.op rfl (Rd.fieldO rfl rfl) ?_; refine PL.op rfl (Rd.loadO rfl rfl rfl) ?_; refine PL.op rfl (Rd.addM rfl rfl h_14) ?_; refine PL.del_Value hs rfl rfl rfl rfl rfl rfl rfl h_16 ?_; refine PL.nm (.os 2 0 xs15.length) [some ⟨.mx [iA p_c.kind, iA p_c.at_, iA p_c.column.kind, iA p_c.column.default.kind, iA p_c.column.default.num, sA p_c.column.default.text], 89, 0⟩, none, some ⟨.tr (eL xs15), 84, 3⟩] rfl rfl ?_; refine PL.op rfl (Rd.asnO rfl) ?_; refine PL.nil ?_; refine inA_n ?_; refine thA_n ?_; refine PC.seq ?_; refine PC.region ?_; refine PL.op rfl (Rd.moveO rfl) ?_; refine PL.op rfl (Rd.asnO rfl) ?_; refine PL.op rfl (Rd.asnT rfl) ?_; refine PL.nil ?_; refine thA_n ?_; refine PC.ret ?_; obtain rfl := some_in hh0; exact FinA.mk (r := .tup [.os 0 0 (((xs15, true).1).length), bA ((xs15, true).2)]) (bl := [⟨.tr (eL ((xs15, true).1)), 84, 3⟩]) [some 2] (.inl rfl) rfl (rl := [.tmp 6, .tmp 7]) (.tmp (.tmp .nil)) rfl rfl rfl (.tupL ⟨.os rfl, .t _, trivial⟩) ⟨⟨_, rfl, rfl, rfl, .tr _⟩, trivial⟩ ⟨rfl, rfl⟩
  refine PC.cond_false rfl h_12 ?_; obtain ⟨x17, h_18, hh0⟩ := bind_some hh0; obtain ⟨r19, h_20, hh0⟩ := bind_some hh0; refine PC.any (id := 5) 10 (.seg [0, 1, 2, 3, 4, 5, 6, 7, 8, 9] .done) [] rfl (by kernel_rfl) rfl ?_; refine PT.seg ?_; refine PR.op rfl (Rd.moveO rfl) ?_; refine PR.op rfl (Rd.fieldO rfl rfl) ?_; refine PR.op rfl (Rd.loadO rfl rfl rfl) ?_; refine PR.op rfl (Rd.moveO rfl) ?_; refine PR.op rfl (Rd.fieldO rfl rfl) ?_; refine PR.op rfl (Rd.loadO rfl rfl rfl) ?_; refine PR.op rfl (Rd.ixOM rfl rfl rfl (ixI_lt h_18)) ?_; refine PR.op rfl (Rd.owMR rfl rfl h_18 rfl rfl) ?_; refine PR.callM false [] (w_I_WidenValue N x17 r19 h_20) rfl Tryz.call84 rfl ⟨.aggL ⟨.t _, .t _, .t _, trivial⟩, trivial⟩ rfl trivial (fun h => by cases h) rfl ?_; refine PR.op rfl (Rd.ixOM rfl rfl rfl (ixI_lt h_18)) ?_; refine PR.nil ?_; refine PT.done ?_; refine PL.stRM r19 rfl rfl rfl rfl rfl h_18 rfl ?_; refine PL.nO [some ⟨.mx [iA p_c.kind, iA p_c.at_, iA p_c.column.kind, iA p_c.column.default.kind, iA p_c.column.default.num, sA p_c.column.default.text], 89, 0⟩, some ⟨.tr (eL (r7.set p_c.at_.toNat r19)), 84, 3⟩] rfl ?_; refine PL.nil ?_; refine inA_n ?_; refine thA_n ?_; refine PC.seq ?_; refine PC.region ?_; refine PL.op rfl (Rd.moveO rfl) ?_; refine PL.op rfl (Rd.asnO rfl) ?_; refine PL.op rfl (Rd.asnT rfl) ?_; refine PL.nil ?_; refine thA_n ?_; refine PC.ret ?_; obtain rfl := some_in hh0; exact FinA.mk (r := .tup [.os 0 0 ((((r7.set p_c.at_.toNat r19), true).1).length), bA (((r7.set p_c.at_.toNat r19), true).2)]) (bl := [⟨.tr (eL (((r7.set p_c.at_.toNat r19), true).1)), 84, 3⟩]) [some 1] (.inl rfl) rfl (rl := [.tmp 6, .tmp 7]) (.tmp (.tmp .nil)) rfl rfl rfl (.tupL ⟨.osE rfl (by simp only [List.length_set]), .t _, trivial⟩) ⟨⟨_, rfl, rfl, rfl, .tr _⟩, trivial⟩ ⟨rfl, rfl⟩
def m_I_ReadRow_k1 (N : Nat) (v26 : (List I_Value)) : Option ((List I_Value) × Bool) :=
  some (v26, true)
def m_I_ReadRow_b1 (N : Nat) (p_list : (List I_Change)) (p_to : Int) (r1 : ((List (List I_Column)) × Bool)) (i14 : Int) (v15 : (List I_Value)) : Option ((Int × (List I_Value)) ⊕ ((List I_Value) ⊕ ((List I_Value) × Bool))) :=
  cond (decide (i14 < p_to))
    ((ixI r1.1 i14).bind fun x33 =>
    (ixI p_list i14).bind fun x35 =>
    (m_I_ChangeRow N x33 v15 x35).bind fun r37 =>
    cond r37.2
      ((chk (i14 + (1 : Int))).bind fun n40 =>
      some (.inl (n40, r37.1)))
      (some (.inr (.inr (([] : List I_Value), false)))))
    (some (.inr (.inl v15)))
def m_I_ReadRow (N : Nat) (p_f : (List I_Column)) (p_list : (List I_Change)) (p_from : Int) (p_to : Int) (p_row : (List I_Value)) : Option ((List I_Value) × Bool) :=
  (m_I_ChainOf N p_f p_list).bind fun r1 =>
  cond r1.2
    (cond (decide (p_from < (0 : Int)))
      (some (([] : List I_Value), false))
      (cond (decide (p_to < p_from))
        (some (([] : List I_Value), false))
        (cond (decide ((r1.1.length : Int) ≤ p_to))
          (some (([] : List I_Value), false))
          ((ixI r1.1 p_from).bind fun x7 =>
          (m_I_RowFits N x7 p_row).bind fun r9 =>
          cond r9
            ((m_slices_Clone_I_Value N p_row).bind fun r12 =>
            (loopM (β := (List I_Value) ⊕ ((List I_Value) × Bool)) (fun s : Int × (List I_Value) => m_I_ReadRow_b1 N p_list p_to r1 s.1 s.2) N (p_from, r12)).bind fun o => match o with
            | .inl e =>
              m_I_ReadRow_k1 N e
            | .inr v =>
              some v)
            (some (([] : List I_Value), false))))))
    (some (([] : List I_Value), false))
theorem w_I_ReadRow (N : Nat) (p_f : (List I_Column)) (p_list : (List I_Change)) (p_from : Int) (p_to : Int) (p_row : (List I_Value)) (r : (List I_Value) × Bool) (hh0 : m_I_ReadRow N p_f p_list p_from p_to p_row = some r) : FnX Tryz.prog 54 [] [sL p_f, sL p_list, iA p_from, iA p_to, sL p_row] (RE (.tup [.os 0 0 r.1.length, bA r.2]) [⟨.tr (eL r.1), 84, 3⟩]) := by
  unfold m_I_ReadRow at hh0; refine FnX.mk Tryz.func54 rfl rfl ?_; intro s hs; refine PC.seq ?_; refine PC.region ?_; (iterate 2 refine PL.op rfl (Rd.asnT rfl) ?_); refine PL.nil ?_; refine thA_n ?_; refine PC.seq ?_; obtain ⟨r1, h_2, hh0⟩ := bind_some hh0; refine PC.region ?_; (iterate 2 refine PL.op rfl (Rd.moveT rfl) ?_); refine PL.callM false [] (w_I_ChainOf N p_f p_list r1 h_2) rfl Tryz.call72 rfl ⟨.t _, .t _, trivial⟩ rfl trivial (fun h => by cases h) ?_; refine PL.nm (.tup [.os 0 0 r1.1.length, bA r1.2]) [some ⟨.tr (eL r1.1), 30, 1⟩] rfl rfl ?_; refine PL.op rfl (Rd.moveU rfl) ?_; (iterate 2 refine PL.op rfl (Rd.extract rfl rfl) ?_); refine PL.op rfl (Rd.asnO rfl) ?_; refine PL.op rfl (Rd.asnT rfl) ?_; refine PL.nil ?_; refine thA_n ?_; (iterate 2 refine PC.seq ?_); rcases cond_some hh0 with ⟨h_3, hh0⟩ | ⟨h_3, hh0⟩; rotate_left
  · refine PC.region ?_; refine PL.op rfl (Rd.moveT rfl) ?_; refine PL.op rfl (Rd.unnot rfl) ?_; refine PL.op rfl (Rd.moveT rfl) ?_; (iterate 2 refine PL.guard_off rfl rfl (not_f h_3) ?_); refine PL.op rfl (Rd.pick_t rfl (not_f h_3)) ?_; refine PL.op rfl (Rd.moveT rfl) ?_; (iterate 3 refine PL.guard_off rfl rfl rfl ?_); refine PL.op rfl (Rd.pick_t rfl rfl) ?_; refine PL.op rfl (Rd.moveT rfl) ?_; (iterate 4 refine PL.guard_off rfl rfl rfl ?_); refine PL.op rfl (Rd.pick_t rfl rfl) ?_; refine PL.op rfl (Rd.moveT rfl) ?_; (iterate 7 refine PL.guard_off rfl rfl rfl ?_); refine PL.op rfl (Rd.pick_t rfl rfl) ?_; refine PL.nil ?_; refine thA_n ?_; refine PC.cond_true rfl rfl ?_; refine PC.seq ?_; refine PC.region ?_; (iterate 2 refine PL.op rfl (Rd.asnT rfl) ?_); refine PL.nil ?_; refine thA_n ?_; refine PC.ret ?_; refine thA_r ?_; obtain rfl := some_in hh0; exact FinA.mk (r := .tup [.os 0 0 (((([] : List I_Value), false).1).length), bA ((([] : List I_Value), false).2)]) (bl := [⟨.tr (eL ((([] : List I_Value), false).1)), 84, 3⟩]) [none] (.inl rfl) rfl (rl := [.tmp 10, .tmp 11]) (.tmp (.tmp .nil)) rfl rfl rfl (.tupL ⟨.osn rfl, .t _, trivial⟩) ⟨ow_nil _, trivial⟩ ⟨rfl, rfl⟩
  rcases cond_some hh0 with ⟨h_4, hh0⟩ | ⟨h_4, hh0⟩
  · refine PC.region ?_; refine PL.op rfl (Rd.moveT rfl) ?_; refine PL.op rfl (Rd.unnot rfl) ?_; refine PL.op rfl (Rd.moveT rfl) ?_; refine PL.guard_on rfl (not_t h_3) ?_; refine PL.op rfl (Rd.moveT rfl) ?_; refine PL.guard_on rfl (not_t h_3) ?_; refine PL.op rfl (Rd.lss rfl rfl) ?_; refine PL.op rfl (Rd.pick_f rfl (not_t h_3)) ?_; refine PL.op rfl (Rd.moveT rfl) ?_; (iterate 3 refine PL.guard_off rfl rfl h_4 ?_); refine PL.op rfl (Rd.pick_t rfl h_4) ?_; refine PL.op rfl (Rd.moveT rfl) ?_; (iterate 4 refine PL.guard_off rfl rfl rfl ?_); refine PL.op rfl (Rd.pick_t rfl rfl) ?_; refine PL.op rfl (Rd.moveT rfl) ?_; (iterate 7 refine PL.guard_off rfl rfl rfl ?_); refine PL.op rfl (Rd.pick_t rfl rfl) ?_; refine PL.nil ?_; refine thA_n ?_; refine PC.cond_true rfl rfl ?_; refine PC.seq ?_; refine PC.region ?_; (iterate 2 refine PL.op rfl (Rd.asnT rfl) ?_); refine PL.nil ?_; refine thA_n ?_; refine PC.ret ?_; refine thA_r ?_; obtain rfl := some_in hh0; exact FinA.mk (r := .tup [.os 0 0 (((([] : List I_Value), false).1).length), bA ((([] : List I_Value), false).2)]) (bl := [⟨.tr (eL ((([] : List I_Value), false).1)), 84, 3⟩]) [none] (.inl rfl) rfl (rl := [.tmp 10, .tmp 11]) (.tmp (.tmp .nil)) rfl rfl rfl (.tupL ⟨.osn rfl, .t _, trivial⟩) ⟨ow_nil _, trivial⟩ ⟨rfl, rfl⟩
  rcases cond_some hh0 with ⟨h_5, hh0⟩ | ⟨h_5, hh0⟩
  · refine PC.region ?_; refine PL.op rfl (Rd.moveT rfl) ?_; refine PL.op rfl (Rd.unnot rfl) ?_; refine PL.op rfl (Rd.moveT rfl) ?_; refine PL.guard_on rfl (not_t h_3) ?_; refine PL.op rfl (Rd.moveT rfl) ?_; refine PL.guard_on rfl (not_t h_3) ?_; refine PL.op rfl (Rd.lss rfl rfl) ?_; refine PL.op rfl (Rd.pick_f rfl (not_t h_3)) ?_; refine PL.op rfl (Rd.moveT rfl) ?_; refine PL.guard_on rfl h_4 ?_; refine PL.op rfl (Rd.moveT rfl) ?_; refine PL.guard_on rfl h_4 ?_; refine PL.op rfl (Rd.moveT rfl) ?_; refine PL.guard_on rfl h_4 ?_; refine PL.op rfl (Rd.lss rfl rfl) ?_; refine PL.op rfl (Rd.pick_f rfl h_4) ?_; refine PL.op rfl (Rd.moveT rfl) ?_; (iterate 4 refine PL.guard_off rfl rfl h_5 ?_); refine PL.op rfl (Rd.pick_t rfl h_5) ?_; refine PL.op rfl (Rd.moveT rfl) ?_; (iterate 7 refine PL.guard_off rfl rfl rfl ?_); refine PL.op rfl (Rd.pick_t rfl rfl) ?_; refine PL.nil ?_; refine thA_n ?_; refine PC.cond_true rfl rfl ?_; refine PC.seq ?_; refine PC.region ?_; (iterate 2 refine PL.op rfl (Rd.asnT rfl) ?_); refine PL.nil ?_; refine thA_n ?_; refine PC.ret ?_; refine thA_r ?_; obtain rfl := some_in hh0; exact FinA.mk (r := .tup [.os 0 0 (((([] : List I_Value), false).1).length), bA ((([] : List I_Value), false).2)]) (bl := [⟨.tr (eL ((([] : List I_Value), false).1)), 84, 3⟩]) [none] (.inl rfl) rfl (rl := [.tmp 10, .tmp 11]) (.tmp (.tmp .nil)) rfl rfl rfl (.tupL ⟨.osn rfl, .t _, trivial⟩) ⟨ow_nil _, trivial⟩ ⟨rfl, rfl⟩
  rcases cond_some hh0 with ⟨h_6, hh0⟩ | ⟨h_6, hh0⟩
  · refine PC.region ?_; refine PL.op rfl (Rd.moveT rfl) ?_; refine PL.op rfl (Rd.unnot rfl) ?_; refine PL.op rfl (Rd.moveT rfl) ?_; refine PL.guard_on rfl (not_t h_3) ?_; refine PL.op rfl (Rd.moveT rfl) ?_; refine PL.guard_on rfl (not_t h_3) ?_; refine PL.op rfl (Rd.lss rfl rfl) ?_; refine PL.op rfl (Rd.pick_f rfl (not_t h_3)) ?_; refine PL.op rfl (Rd.moveT rfl) ?_; refine PL.guard_on rfl h_4 ?_; refine PL.op rfl (Rd.moveT rfl) ?_; refine PL.guard_on rfl h_4 ?_; refine PL.op rfl (Rd.moveT rfl) ?_; refine PL.guard_on rfl h_4 ?_; refine PL.op rfl (Rd.lss rfl rfl) ?_; refine PL.op rfl (Rd.pick_f rfl h_4) ?_; refine PL.op rfl (Rd.moveT rfl) ?_; refine PL.guard_on rfl h_5 ?_; refine PL.op rfl (Rd.moveT rfl) ?_; refine PL.guard_on rfl h_5 ?_; refine PL.op rfl (Rd.moveO rfl) ?_; refine PL.guard_on rfl h_5 ?_; refine PL.op rfl (Rd.lenO rfl rfl) ?_; refine PL.guard_on rfl h_5 ?_; refine PL.op rfl (Rd.geq rfl rfl) ?_; refine PL.op rfl (Rd.pick_f rfl h_5) ?_; refine PL.op rfl (Rd.moveT rfl) ?_; (iterate 7 refine PL.guard_off rfl rfl h_6 ?_); refine PL.op rfl (Rd.pick_t rfl h_6) ?_; refine PL.nil ?_; refine thA_n ?_; refine PC.cond_true rfl rfl ?_; refine PC.seq ?_; refine PC.region ?_; (iterate 2 refine PL.op rfl (Rd.asnT rfl) ?_); refine PL.nil ?_; refine thA_n ?_; refine PC.ret ?_; refine thA_r ?_; obtain rfl := some_in hh0; exact FinA.mk (r := .tup [.os 0 0 (((([] : List I_Value), false).1).length), bA ((([] : List I_Value), false).2)]) (bl := [⟨.tr (eL ((([] : List I_Value), false).1)), 84, 3⟩]) [none] (.inl rfl) rfl (rl := [.tmp 10, .tmp 11]) (.tmp (.tmp .nil)) rfl rfl rfl (.tupL ⟨.osn rfl, .t _, trivial⟩) ⟨ow_nil _, trivial⟩ ⟨rfl, rfl⟩
  obtain ⟨x7, h_8, hh0⟩ := bind_some hh0; obtain ⟨r9, h_10, hh0⟩ := bind_some hh0; refine PC.region ?_; refine PL.op rfl (Rd.moveT rfl) ?_; refine PL.op rfl (Rd.unnot rfl) ?_; refine PL.op rfl (Rd.moveT rfl) ?_; refine PL.guard_on rfl (not_t h_3) ?_; refine PL.op rfl (Rd.moveT rfl) ?_; refine PL.guard_on rfl (not_t h_3) ?_; refine PL.op rfl (Rd.lss rfl rfl) ?_; refine PL.op rfl (Rd.pick_f rfl (not_t h_3)) ?_; refine PL.op rfl (Rd.moveT rfl) ?_; refine PL.guard_on rfl h_4 ?_; refine PL.op rfl (Rd.moveT rfl) ?_; refine PL.guard_on rfl h_4 ?_; refine PL.op rfl (Rd.moveT rfl) ?_; refine PL.guard_on rfl h_4 ?_; refine PL.op rfl (Rd.lss rfl rfl) ?_; refine PL.op rfl (Rd.pick_f rfl h_4) ?_; refine PL.op rfl (Rd.moveT rfl) ?_; refine PL.guard_on rfl h_5 ?_; refine PL.op rfl (Rd.moveT rfl) ?_; refine PL.guard_on rfl h_5 ?_; refine PL.op rfl (Rd.moveO rfl) ?_; refine PL.guard_on rfl h_5 ?_; refine PL.op rfl (Rd.lenO rfl rfl) ?_; refine PL.guard_on rfl h_5 ?_; refine PL.op rfl (Rd.geq rfl rfl) ?_; refine PL.op rfl (Rd.pick_f rfl h_5) ?_; refine PL.op rfl (Rd.moveT rfl) ?_; refine PL.guard_on rfl h_6 ?_; refine PL.op rfl (Rd.moveO rfl) ?_; refine PL.guard_on rfl h_6 ?_; refine PL.op rfl (Rd.moveT rfl) ?_; refine PL.guard_on rfl h_6 ?_; refine PL.op rfl (Rd.ixOM rfl rfl rfl (ixI_lt h_8)) ?_; refine PL.guard_on rfl h_6 ?_; refine PL.op rfl (Rd.owM1 rfl rfl h_8 rfl rfl) ?_; refine PL.guard_on rfl h_6 ?_; refine PL.op rfl (Rd.moveT rfl) ?_; refine PL.guard_on rfl h_6 ?_; refine PL.callM false [] (w_I_RowFits N x7 p_row r9 h_10) rfl Tryz.call73 rfl ⟨.t _, .t _, trivial⟩ rfl trivial (fun h => by cases h) ?_; refine PL.guard_on rfl h_6 ?_; refine PL.op rfl (Rd.unnot rfl) ?_; refine PL.op rfl (Rd.pick_f rfl h_6) ?_; refine PL.nil ?_; refine thA_n ?_; rcases cond_some hh0 with ⟨h_11, hh0⟩ | ⟨h_11, hh0⟩; rotate_left
  · refine PC.cond_true rfl (not_f h_11) ?_; refine PC.seq ?_; refine PC.region ?_; (iterate 2 refine PL.op rfl (Rd.asnT rfl) ?_); refine PL.nil ?_; refine thA_n ?_; refine PC.ret ?_; refine thA_r ?_; obtain rfl := some_in hh0; exact FinA.mk (r := .tup [.os 0 0 (((([] : List I_Value), false).1).length), bA ((([] : List I_Value), false).2)]) (bl := [⟨.tr (eL ((([] : List I_Value), false).1)), 84, 3⟩]) [none] (.inl rfl) rfl (rl := [.tmp 10, .tmp 11]) (.tmp (.tmp .nil)) rfl rfl rfl (.tupL ⟨.osn rfl, .t _, trivial⟩) ⟨ow_nil _, trivial⟩ ⟨rfl, rfl⟩
  refine PC.cond_false rfl (not_t h_11) ?_; refine PC.skip ?_; refine thA_n ?_; refine PC.seq ?_; obtain ⟨r12, h_13, hh0⟩ := bind_some hh0; refine PC.region ?_; refine PL.op rfl (Rd.moveT rfl) ?_; refine PL.callM false [] (w_slices_Clone_I_Value N p_row r12 h_13) rfl Tryz.call63 rfl ⟨.t _, trivial⟩ rfl trivial (fun h => by cases h) ?_; refine PL.nm (.os 1 0 r12.length) [some ⟨.tr (eL r1.1), 30, 1⟩, some ⟨.tr (eL r12), 84, 3⟩] rfl rfl ?_; refine PL.op rfl (Rd.asnO rfl) ?_; refine PL.nil ?_; refine thA_n ?_; (iterate 2 refine PC.seq ?_); refine PC.region ?_; refine PL.op rfl (Rd.moveT rfl) ?_; refine PL.op rfl (Rd.asnT rfl) ?_; refine PL.nil ?_; refine thA_n ?_; obtain ⟨o27, h_28, hh0⟩ := bind_some hh0; refine PC.cutE hs (fun x : (List I_Value) => [(14, .os 0 0 x.length)]) (fun x => [⟨.tr (eL x), 84, 3⟩]) (fun x => m_I_ReadRow_k1 N x = some r) ?_ ?_
  · refine PC.block ?_; refine PC.loop hs (fun x : Nat × (Int × (List I_Value)) => [(1, sL p_list), (3, iA p_to), (12, .os 0 0 r1.1.length), (14, .os 1 0 x.2.2.length), (15, iA x.2.1)]) (fun x => [⟨.tr (eL r1.1), 30, 1⟩, ⟨.tr (eL x.2.2), 84, 3⟩]) (fun x => loopM (β := (List I_Value) ⊕ ((List I_Value) × Bool)) (fun s : Int × (List I_Value) => m_I_ReadRow_b1 N p_list p_to r1 s.1 s.2) x.1 x.2 = some o27) (fun x => x.1) (N, (p_from, r12)) [some 0, some 1] ⟨rfl, rfl, ⟨⟨_, rfl, rfl, rfl, .tr _⟩, ⟨_, rfl, rfl, rfl, .tr _⟩, trivial⟩, ⟨.t _, .t _, .os rfl, .os rfl, .t _, trivial⟩⟩ h_28 ?_
    rintro ⟨f29_, i14, v15⟩ h_31
    obtain ⟨f29, y30, rfl, hh1, kk1⟩ := loopM_some h_31
    replace hh1 : m_I_ReadRow_b1 N p_list p_to r1 i14 v15 = some y30 := hh1
    unfold m_I_ReadRow_b1 at hh1; (iterate 2 refine PC.seq ?_); refine PC.region ?_; (iterate 2 refine PL.op rfl (Rd.moveT rfl) ?_); refine PL.op rfl (Rd.lss rfl rfl) ?_; refine PL.nil ?_; refine thA_n ?_; rcases cond_some hh1 with ⟨h_32, hh1⟩ | ⟨h_32, hh1⟩; rotate_left
    · refine PC.cond_false rfl h_32 ?_; refine PC.exit ?_; (iterate 2 refine thA_e ?_); refine inA_eq rfl ?_; refine thA_n ?_; obtain rfl := some_in hh1; obtain rfl : (.inl v15 : (List I_Value) ⊕ ((List I_Value) × Bool)) = o27 := kk1; exact ⟨v15, hh0, [some 1], ⟨rfl, rfl, ⟨⟨_, rfl, rfl, rfl, .tr _⟩, trivial⟩, ⟨.os rfl, trivial⟩⟩⟩
    refine PC.cond_true rfl h_32 ?_; refine PC.skip ?_; refine thA_n ?_; refine PC.seq ?_; refine PC.block ?_; refine PC.seq ?_; obtain ⟨x33, h_34, hh1⟩ := bind_some hh1; obtain ⟨x35, h_36, hh1⟩ := bind_some hh1; obtain ⟨r37, h_38, hh1⟩ := bind_some hh1; refine PC.any (id := 8) 15 (.seg [0, 1, 2, 3, 4, 5, 6, 7, 8, 9, 10, 11, 12, 13, 14] .done) [] rfl (by kernel_rfl) rfl ?_; refine PT.seg ?_; refine PR.op rfl (Rd.moveO rfl) ?_; refine PR.op rfl (Rd.moveT rfl) ?_; refine PR.op rfl (Rd.ixOM rfl rfl rfl (ixI_lt h_34)) ?_; refine PR.op rfl (Rd.owM1 rfl rfl h_34 rfl rfl) ?_; refine PR.op rfl (Rd.moveO rfl) ?_; (iterate 2 refine PR.op rfl (Rd.moveT rfl) ?_); refine PR.op rfl (Rd.ixM rfl rfl h_36) ?_; refine PR.op rfl (Rd.elMR rfl h_36 rfl rfl) ?_; refine PR.callM true [] (w_I_ChangeRow N x33 v15 x35 r37 h_38) rfl Tryz.call74 rfl ⟨.t _, .own rfl (by first | decide | exact List.not_mem_nil) rfl rfl, .aggL ⟨.t _, .t _, .t _, .t _, .t _, .t _, trivial⟩, trivial⟩ rfl trivial (fun _ => ⟨⟨trivial, trivial, trivial⟩, (flat_cons flat_ow flat_nil)⟩) rfl ?_; refine PR.nm (.tup [.os 2 0 r37.1.length, bA r37.2]) [some ⟨.tr (eL r1.1), 30, 1⟩, some ⟨.tr (eL v15), 84, 3⟩, some ⟨.tr (eL r37.1), 84, 3⟩] rfl rfl ?_; refine PR.op rfl (Rd.moveU rfl) ?_; (iterate 2 refine PR.op rfl (Rd.extract rfl rfl) ?_); refine PR.op rfl (Rd.asnO rfl) ?_; refine PR.op rfl (Rd.asnT rfl) ?_; refine PR.nil ?_; refine PT.done ?_; refine PL.nil ?_; refine thA_n ?_; refine PC.seq ?_; refine PC.region ?_; refine PL.op rfl (Rd.moveT rfl) ?_; refine PL.op rfl (Rd.unnot rfl) ?_; refine PL.nil ?_; refine thA_n ?_; rcases cond_some hh1 with ⟨h_39, hh1⟩ | ⟨h_39, hh1⟩
    · refine PC.cond_false rfl (not_t h_39) ?_; refine PC.skip ?_; refine inA_n ?_; refine thA_n ?_; obtain ⟨n40, h_41, hh1⟩ := bind_some hh1; refine PC.region ?_; refine PL.op rfl (Rd.moveT rfl) ?_; refine PL.op rfl (Rd.addM rfl rfl h_41) ?_; refine PL.op rfl (Rd.asnT rfl) ?_; refine PL.nil ?_; obtain rfl := some_in hh1; refine thA_n ?_; exact ⟨(f29, (n40, r37.1)), Nat.lt_succ_self _, kk1, [some 0, some 2], ⟨rfl, rfl, ⟨⟨_, rfl, rfl, rfl, .tr _⟩, ⟨_, rfl, rfl, rfl, .tr _⟩, trivial⟩, ⟨.t _, .t _, .os rfl, .os rfl, .t _, trivial⟩⟩⟩
    refine PC.cond_true rfl (not_f h_39) ?_; refine PC.seq ?_; refine PC.region ?_; (iterate 2 refine PL.op rfl (Rd.asnT rfl) ?_); refine PL.nil ?_; refine thA_n ?_; refine PC.ret ?_; refine inA_r ?_; (iterate 2 refine thA_r ?_); refine inA_r ?_; refine thA_r ?_; obtain rfl := some_in hh1; obtain rfl : (.inr (([] : List I_Value), false) : (List I_Value) ⊕ ((List I_Value) × Bool)) = o27 := kk1; refine thA_r ?_; obtain rfl := some_in hh0; exact FinA.mk (r := .tup [.os 0 0 (((([] : List I_Value), false).1).length), bA ((([] : List I_Value), false).2)]) (bl := [⟨.tr (eL ((([] : List I_Value), false).1)), 84, 3⟩]) [none] (.inl rfl) rfl (rl := [.tmp 10, .tmp 11]) (.tmp (.tmp .nil)) rfl rfl rfl (.tupL ⟨.osn rfl, .t _, trivial⟩) ⟨ow_nil _, trivial⟩ ⟨rfl, rfl⟩
  clear hh0
  rintro v26 hh0
  replace hh0 : m_I_ReadRow_k1 N v26 = some r := hh0
  unfold m_I_ReadRow_k1 at hh0; refine thA_n ?_; refine PC.seq ?_; refine PC.region ?_; refine PL.op rfl (Rd.moveO rfl) ?_; refine PL.op rfl (Rd.asnO rfl) ?_; refine PL.op rfl (Rd.asnT rfl) ?_; refine PL.nil ?_; refine thA_n ?_; refine PC.ret ?_; obtain rfl := some_in hh0; exact FinA.mk (r := .tup [.os 0 0 (((v26, true).1).length), bA ((v26, true).2)]) (bl := [⟨.tr (eL ((v26, true).1)), 84, 3⟩]) [some 0] (.inl rfl) rfl (rl := [.tmp 10, .tmp 11]) (.tmp (.tmp .nil)) rfl rfl rfl (.tupL ⟨.os rfl, .t _, trivial⟩) ⟨⟨_, rfl, rfl, rfl, .tr _⟩, trivial⟩ ⟨rfl, rfl⟩
def m_I_Table_read (N : Nat) (p_t : I_Table) (p_r : I_Tagged) : Option ((List I_Value)) :=
  (m_I_Table_last N p_t).bind fun r1 =>
  (m_I_ReadRow N p_t.first p_t.changes p_r.tag r1 p_r.row).bind fun r3 =>
  some r3.1
theorem w_I_Table_read (N : Nat) (p_t : I_Table) (p_r : I_Tagged) (r : (List I_Value)) (hh0 : m_I_Table_read N p_t p_r = some r) : FnX Tryz.prog 26 [] [.agg [sL p_t.first, sL p_t.changes, sL p_t.rows], .agg [iA p_r.tag, sL p_r.row]] (RE (.os 0 0 r.length) [⟨.tr (eL r), 84, 3⟩]) := by
  unfold m_I_Table_read at hh0; refine FnX.mk Tryz.func26 rfl rfl ?_; intro s hs; refine PC.seq ?_; refine PC.region ?_; refine PL.ef rfl (Ef.box rfl rfl rfl) ?_; refine PL.nm (.op 0 0) [some ⟨.mx [sL p_t.first, sL p_t.changes, sL p_t.rows], 34, 0⟩] rfl rfl ?_; refine PL.ef rfl (Ef.box rfl rfl rfl) ?_; refine PL.nm (.op 1 0) [some ⟨.mx [sL p_t.first, sL p_t.changes, sL p_t.rows], 34, 0⟩, some ⟨.mx [iA p_r.tag, sL p_r.row], 52, 0⟩] rfl rfl ?_; refine PL.op rfl (Rd.asnT rfl) ?_; refine PL.nil ?_; refine thA_n ?_; refine PC.seq ?_; obtain ⟨r1, h_2, hh0⟩ := bind_some hh0; obtain ⟨r3, h_4, hh0⟩ := bind_some hh0; refine PC.any (id := 1) 16 (.seg [0, 1, 2, 3, 4, 5, 8, 9, 6, 7, 10, 11, 12, 13, 14, 15] .done) [] rfl (by kernel_rfl) rfl ?_; refine PT.seg ?_; refine PR.op rfl (Rd.fieldO rfl rfl) ?_; refine PR.op rfl (Rd.loadO rfl rfl rfl) ?_; refine PR.op rfl (Rd.fieldO rfl rfl) ?_; refine PR.op rfl (Rd.loadO rfl rfl rfl) ?_; refine PR.op rfl (Rd.fieldO rfl rfl) ?_; refine PR.op rfl (Rd.loadO rfl rfl rfl) ?_; refine PR.op rfl (Rd.fieldO rfl rfl) ?_; refine PR.op rfl (Rd.loadO rfl rfl rfl) ?_; refine PR.rdE rfl rfl (Rd.loadBox rfl rfl rfl) ?_; refine PR.callM false [] (w_I_Table_last N p_t r1 h_2) rfl Tryz.call38 rfl ⟨.aggL ⟨.t _, .t _, .t _, trivial⟩, trivial⟩ rfl trivial (fun h => by cases h) rfl ?_; refine PR.callM false [] (w_I_ReadRow N p_t.first p_t.changes p_r.tag r1 p_r.row r3 h_4) rfl Tryz.call54 rfl ⟨.t _, .t _, .t _, .t _, .t _, trivial⟩ rfl trivial (fun h => by cases h) rfl ?_; refine PR.nm (.tup [.os 2 0 r3.1.length, bA r3.2]) [some ⟨.mx [sL p_t.first, sL p_t.changes, sL p_t.rows], 34, 0⟩, some ⟨.mx [iA p_r.tag, sL p_r.row], 52, 0⟩, some ⟨.tr (eL r3.1), 84, 3⟩] rfl rfl ?_; refine PR.op rfl (Rd.moveU rfl) ?_; (iterate 2 refine PR.op rfl (Rd.extract rfl rfl) ?_); refine PR.op rfl (Rd.asnO rfl) ?_; refine PR.op rfl (Rd.asnT rfl) ?_; refine PR.nil ?_; refine PT.done ?_; refine PL.nil ?_; refine thA_n ?_; refine PC.seq ?_; refine PC.region ?_; refine PL.op rfl (Rd.moveO rfl) ?_; refine PL.op rfl (Rd.asnO rfl) ?_; refine PL.nil ?_; refine thA_n ?_; refine PC.ret ?_; obtain rfl := some_in hh0; exact FinA.mk (r := .os 0 0 r3.1.length) (bl := [⟨.tr (eL r3.1), 84, 3⟩]) [some 2] (.inl rfl) rfl (rl := [.tmp 4]) (.tmp .nil) rfl rfl rfl (.os rfl) ⟨⟨_, rfl, rfl, rfl, .tr _⟩, trivial⟩ ⟨rfl, rfl⟩
def m_I_TableRows_k1 (N : Nat) (v15 : (List (List I_Value))) : Option ((List (List I_Value))) :=
  some v15
def m_I_TableRows_b1 (N : Nat) (p_t : I_Table) (i4 : Int) (v5 : (List (List I_Value))) : Option ((Int × (List (List I_Value))) ⊕ (List (List I_Value))) :=
  cond (decide (i4 < (p_t.rows.length : Int)))
    ((ixI p_t.rows i4).bind fun x22 =>
    (m_I_Table_read N p_t x22).bind fun r24 =>
    (appM 24 v5 [r24]).bind fun xs26 =>
    (chk (i4 + (1 : Int))).bind fun n28 =>
    some (.inl (n28, xs26)))
    (some (.inr v5))
def m_I_TableRows (N : Nat) (p_t : I_Table) : Option ((List (List I_Value))) :=
  (m_I_ValidTable N p_t).bind fun r1 =>
  cond r1
    ((loopM (β := (List (List I_Value))) (fun s : Int × (List (List I_Value)) => m_I_TableRows_b1 N p_t s.1 s.2) N ((0 : Int), ([] : List (List I_Value)))).bind fun e =>
    m_I_TableRows_k1 N e)
    (some ([] : List (List I_Value)))
theorem w_I_TableRows (N : Nat) (p_t : I_Table) (r : (List (List I_Value))) (hh0 : m_I_TableRows N p_t = some r) : FnX Tryz.prog 8 [] [.agg [sL p_t.first, sL p_t.changes, sL p_t.rows]] (RE (.os 0 0 r.length) [⟨.mx (dL 1 0 r), 50, 1⟩, ⟨.fm (fam r), 84, 3⟩]) := by
  unfold m_I_TableRows at hh0; refine FnX.mk Tryz.func8 rfl rfl ?_; intro s hs; refine PC.seq ?_; refine PC.region ?_; refine PL.ef rfl (Ef.box rfl rfl rfl) ?_; refine PL.nm (.op 0 0) [some ⟨.mx [sL p_t.first, sL p_t.changes, sL p_t.rows], 34, 0⟩] rfl rfl ?_; refine PL.op rfl (Rd.asnT rfl) ?_; refine PL.nil ?_; refine thA_n ?_; (iterate 2 refine PC.seq ?_); obtain ⟨r1, h_2, hh0⟩ := bind_some hh0; refine PC.region ?_; refine PL.op rfl (Rd.loadBox rfl rfl rfl) ?_; refine PL.callM false [] (w_I_ValidTable N p_t r1 h_2) rfl Tryz.call25 rfl ⟨.aggL ⟨.t _, .t _, .t _, trivial⟩, trivial⟩ rfl trivial (fun h => by cases h) ?_; refine PL.op rfl (Rd.unnot rfl) ?_; refine PL.nil ?_; refine thA_n ?_; rcases cond_some hh0 with ⟨h_3, hh0⟩ | ⟨h_3, hh0⟩; rotate_left
  · refine PC.cond_true rfl (not_f h_3) ?_; refine PC.seq ?_; refine PC.region ?_; refine PL.op rfl (Rd.asnT rfl) ?_; refine PL.nil ?_; refine thA_n ?_; refine PC.ret ?_; refine thA_r ?_; obtain rfl := some_in hh0; exact FinA.mk (r := .os 0 0 0) (bl := [⟨.mx (dL 1 0 ([] : List (List I_Value))), 50, 1⟩, ⟨.fm (fam ([] : List (List I_Value))), 84, 3⟩]) [none, none] (.inl rfl) rfl (rl := [.tmp 2]) (.tmp .nil) rfl rfl rfl (.osn rfl) ⟨rfl, rfl, trivial⟩ ⟨rfl, rfl⟩
  refine PC.cond_false rfl (not_t h_3) ?_; refine PC.skip ?_; refine thA_n ?_; refine PC.seq ?_; refine PC.region ?_; refine PL.op rfl (Rd.asnT rfl) ?_; refine PL.nil ?_; refine thA_n ?_; (iterate 2 refine PC.seq ?_); refine PC.region ?_; refine PL.op rfl (Rd.fieldO rfl rfl) ?_; refine PL.op rfl (Rd.loadO rfl rfl rfl) ?_; refine PL.op rfl (Rd.lenT rfl) ?_; refine PL.op rfl (Rd.moveT rfl) ?_; refine PL.nil ?_; refine thA_n ?_; obtain ⟨o16, h_17, hh0⟩ := bind_some hh0; refine PC.cutE hs (fun x : (List (List I_Value)) => [(3, .os 0 0 x.length)]) (fun x => [⟨.mx (dL 1 0 x), 50, 1⟩, ⟨.fm (fam x), 84, 3⟩]) (fun x => m_I_TableRows_k1 N x = some r) ?_ ?_
  · refine PC.block ?_; refine PC.loop hs (fun x : Nat × (Int × (List (List I_Value))) => [(1, .op 0 0), (3, .os 1 0 x.2.2.length), (10, sL p_t.rows), (11, iA (p_t.rows.length : Int)), (12, iA x.2.1)]) (fun x => [⟨.mx [sL p_t.first, sL p_t.changes, sL p_t.rows], 34, 0⟩, ⟨.mx (dL 2 0 x.2.2), 50, 1⟩, ⟨.fm (fam x.2.2), 84, 3⟩]) (fun x => loopM (β := (List (List I_Value))) (fun s : Int × (List (List I_Value)) => m_I_TableRows_b1 N p_t s.1 s.2) x.1 x.2 = some o16) (fun x => x.1) (N, ((0 : Int), ([] : List (List I_Value)))) [some 0, none, none] ⟨rfl, rfl, ⟨⟨_, rfl, rfl, rfl, .mx ⟨.t _, .t _, .t _, trivial⟩⟩, rfl, rfl, trivial⟩, ⟨.op rfl, .osn rfl, .t _, .t _, .t _, trivial⟩⟩ h_17 ?_
    rintro ⟨f18_, i4, v5⟩ h_20
    obtain ⟨f18, y19, rfl, hh1, kk1⟩ := loopM_some h_20
    replace hh1 : m_I_TableRows_b1 N p_t i4 v5 = some y19 := hh1
    unfold m_I_TableRows_b1 at hh1; refine PC.seq ?_; refine PC.region ?_; refine PL.op rfl (Rd.lss rfl rfl) ?_; refine PL.nil ?_; refine thA_n ?_; refine PC.seq ?_; rcases cond_some hh1 with ⟨h_21, hh1⟩ | ⟨h_21, hh1⟩; rotate_left
    · refine PC.cond_false rfl h_21 ?_; refine PC.exit ?_; (iterate 2 refine thA_e ?_); refine inA_eq rfl ?_; refine thA_n ?_; obtain rfl := some_in hh1; obtain rfl : (v5 : (List (List I_Value))) = o16 := kk1; exact ⟨v5, hh0, [some 1, some 2], ⟨rfl, rfl, ⟨⟨_, rfl, rfl, rfl, .mx (sb_dL rfl 0 _)⟩, ⟨_, rfl, rfl, rfl, .fm _⟩, trivial⟩, ⟨.os rfl, trivial⟩⟩⟩
    refine PC.cond_true rfl h_21 ?_; refine PC.skip ?_; refine thA_n ?_; refine PC.seq ?_; refine PC.block ?_; refine PC.seq ?_; obtain ⟨x22, h_23, hh1⟩ := bind_some hh1; refine PC.region ?_; refine PL.op rfl (Rd.ixM rfl rfl h_23) ?_; refine PL.op rfl (Rd.elMR rfl h_23 rfl rfl) ?_; refine PL.ef rfl (Ef.alloc rfl rfl) ?_; refine PL.nm (.op 3 0) [some ⟨.mx [sL p_t.first, sL p_t.changes, sL p_t.rows], 34, 0⟩, some ⟨.mx (dL 2 0 v5), 50, 1⟩, some ⟨.fm (fam v5), 84, 3⟩, some ⟨.mx [iA (0 : Int), .t (.v (.slice none 0 0))], 52, 0⟩] rfl rfl ?_; refine PL.store rfl rfl rfl rfl rfl rfl rfl ?_; refine PL.nO [some ⟨.mx [sL p_t.first, sL p_t.changes, sL p_t.rows], 34, 0⟩, some ⟨.mx (dL 2 0 v5), 50, 1⟩, some ⟨.fm (fam v5), 84, 3⟩, some ⟨.mx [iA x22.tag, sL x22.row], 52, 0⟩] rfl ?_; refine PL.nil ?_; refine thA_n ?_; obtain ⟨r24, h_25, hh1⟩ := bind_some hh1; obtain ⟨xs26, h_27, hh1⟩ := bind_some hh1; refine PC.region ?_; refine PL.op rfl (Rd.moveO rfl) ?_; (iterate 2 refine PL.op rfl (Rd.loadBox rfl rfl rfl) ?_); refine PL.callM false [] (w_I_Table_read N p_t x22 r24 h_25) rfl Tryz.call26 rfl ⟨.aggL ⟨.t _, .t _, .t _, trivial⟩, .aggL ⟨.t _, .t _, trivial⟩, trivial⟩ rfl trivial (fun h => by cases h) ?_; refine PL.nm (.os 4 0 r24.length) [some ⟨.mx [sL p_t.first, sL p_t.changes, sL p_t.rows], 34, 0⟩, some ⟨.mx (dL 2 0 v5), 50, 1⟩, some ⟨.fm (fam v5), 84, 3⟩, some ⟨.mx [iA x22.tag, sL x22.row], 52, 0⟩, some ⟨.tr (eL r24), 84, 3⟩] rfl rfl ?_; refine PL.ef rfl (Ef.lit (cs := [.os 4 0 r24.length]) [_] rfl rfl (by decide) rfl rfl rfl rfl) ?_; refine PL.nm (.os 5 0 1) [some ⟨.mx [sL p_t.first, sL p_t.changes, sL p_t.rows], 34, 0⟩, some ⟨.mx (dL 2 0 v5), 50, 1⟩, some ⟨.fm (fam v5), 84, 3⟩, some ⟨.mx [iA x22.tag, sL x22.row], 52, 0⟩, some ⟨.tr (eL r24), 84, 3⟩, some ⟨.mx [.os 4 0 r24.length], 50, 1⟩] rfl rfl ?_; refine PL.apD hs r24 rfl rfl rfl rfl rfl rfl rfl rfl rfl rfl rfl rfl rfl rfl rfl rfl rfl rfl h_27 ?_; refine PL.nm (.os 6 0 xs26.length) [some ⟨.mx [sL p_t.first, sL p_t.changes, sL p_t.rows], 34, 0⟩, none, none, some ⟨.mx [iA x22.tag, sL x22.row], 52, 0⟩, none, some ⟨.mx [.os 4 0 r24.length], 50, 1⟩, some ⟨.mx (dL 7 0 xs26), 50, 1⟩, some ⟨.fm (fam xs26), 84, 3⟩] rfl rfl ?_; refine PL.op rfl (Rd.asnO rfl) ?_; refine PL.nil ?_; refine inA_n ?_; refine thA_n ?_; obtain ⟨n28, h_29, hh1⟩ := bind_some hh1; refine PC.region ?_; refine PL.op rfl (Rd.addM rfl rfl h_29) ?_; refine PL.op rfl (Rd.moveT rfl) ?_; refine PL.nil ?_; obtain rfl := some_in hh1; refine thA_n ?_; exact ⟨(f18, (n28, xs26)), Nat.lt_succ_self _, kk1, [some 0, some 6, some 7], ⟨rfl, rfl, ⟨⟨_, rfl, rfl, rfl, .mx ⟨.t _, .t _, .t _, trivial⟩⟩, ⟨_, rfl, rfl, rfl, .mx (sb_dL rfl 0 _)⟩, ⟨_, rfl, rfl, rfl, .fm _⟩, trivial⟩, ⟨.op rfl, .os rfl, .t _, .t _, .t _, trivial⟩⟩⟩
  clear hh0
  rintro v15 hh0
  replace hh0 : m_I_TableRows_k1 N v15 = some r := hh0
  unfold m_I_TableRows_k1 at hh0; refine thA_n ?_; refine PC.seq ?_; refine PC.region ?_; refine PL.op rfl (Rd.moveO rfl) ?_; refine PL.op rfl (Rd.asnO rfl) ?_; refine PL.nil ?_; refine thA_n ?_; refine PC.ret ?_; obtain rfl := some_in hh0; exact FinA.mk (r := .os 0 0 v15.length) (bl := [⟨.mx (dL 1 0 v15), 50, 1⟩, ⟨.fm (fam v15), 84, 3⟩]) [some 0, some 1] (.inl rfl) rfl (rl := [.tmp 2]) (.tmp .nil) rfl rfl rfl (.os rfl) ⟨⟨_, rfl, rfl, rfl, .mx (sb_dL rfl 0 _)⟩, ⟨_, rfl, rfl, rfl, .fm _⟩, trivial⟩ ⟨rfl, rfl⟩
def m_S_TableRows (N : Nat) (p_t : I_Table) : Option ((List (List I_Value))) :=
  (m_S_validTable N p_t).bind fun r1 =>
  cond r1
    ((m_S_latest N p_t).bind fun r4 =>
    some r4)
    (some ([] : List (List I_Value)))
theorem w_S_TableRows (N : Nat) (p_t : I_Table) (r : (List (List I_Value))) (hh0 : m_S_TableRows N p_t = some r) : FnX Tryz.prog 6 [] [.agg [sL p_t.first, sL p_t.changes, sL p_t.rows]] (RE (.os 0 0 r.length) [⟨.tr (eL r), 50, 1⟩]) := by
  unfold m_S_TableRows at hh0; refine FnX.mk Tryz.func6 rfl rfl ?_; intro s hs; refine PC.seq ?_; refine PC.region ?_; refine PL.ef rfl (Ef.box rfl rfl rfl) ?_; refine PL.nm (.op 0 0) [some ⟨.mx [sL p_t.first, sL p_t.changes, sL p_t.rows], 34, 0⟩] rfl rfl ?_; refine PL.op rfl (Rd.asnT rfl) ?_; refine PL.nil ?_; refine thA_n ?_; (iterate 2 refine PC.seq ?_); obtain ⟨r1, h_2, hh0⟩ := bind_some hh0; refine PC.region ?_; refine PL.op rfl (Rd.loadBox rfl rfl rfl) ?_; refine PL.callM false [] (w_S_validTable N p_t r1 h_2) rfl Tryz.call20 rfl ⟨.aggL ⟨.t _, .t _, .t _, trivial⟩, trivial⟩ rfl trivial (fun h => by cases h) ?_; refine PL.op rfl (Rd.unnot rfl) ?_; refine PL.nil ?_; refine thA_n ?_; rcases cond_some hh0 with ⟨h_3, hh0⟩ | ⟨h_3, hh0⟩; rotate_left
  · refine PC.cond_true rfl (not_f h_3) ?_; refine PC.seq ?_; refine PC.region ?_; refine PL.op rfl (Rd.asnT rfl) ?_; refine PL.nil ?_; refine thA_n ?_; refine PC.ret ?_; refine thA_r ?_; obtain rfl := some_in hh0; exact FinA.mk (r := .os 0 0 0) (bl := [⟨.tr (eL ([] : List (List I_Value))), 50, 1⟩]) [none] (.inl rfl) rfl (rl := [.tmp 2]) (.tmp .nil) rfl rfl rfl (.osn rfl) ⟨ow_nil _, trivial⟩ ⟨rfl, rfl⟩
  refine PC.cond_false rfl (not_t h_3) ?_; refine PC.skip ?_; refine thA_n ?_; refine PC.seq ?_; obtain ⟨r4, h_5, hh0⟩ := bind_some hh0; refine PC.region ?_; refine PL.op rfl (Rd.loadBox rfl rfl rfl) ?_; refine PL.callM false [] (w_S_latest N p_t r4 h_5) rfl Tryz.call21 rfl ⟨.aggL ⟨.t _, .t _, .t _, trivial⟩, trivial⟩ rfl trivial (fun h => by cases h) ?_; refine PL.nm (.os 1 0 r4.length) [some ⟨.mx [sL p_t.first, sL p_t.changes, sL p_t.rows], 34, 0⟩, some ⟨.tr (eL r4), 50, 1⟩] rfl rfl ?_; refine PL.op rfl (Rd.asnO rfl) ?_; refine PL.nil ?_; refine thA_n ?_; refine PC.ret ?_; obtain rfl := some_in hh0; exact FinA.mk (r := .os 0 0 r4.length) (bl := [⟨.tr (eL r4), 50, 1⟩]) [some 1] (.inl rfl) rfl (rl := [.tmp 2]) (.tmp .nil) rfl rfl rfl (.os rfl) ⟨⟨_, rfl, rfl, rfl, .tr _⟩, trivial⟩ ⟨rfl, rfl⟩
def m_slices_Clone_I_Change (N : Nat) (p_s : List I_Change) : Option (List I_Change) := appM 56 ([] : List I_Change) p_s
theorem w_slices_Clone_I_Change (N : Nat) (p_s : List I_Change) (r : List I_Change) (hh0 : m_slices_Clone_I_Change N p_s = some r) : FnX Tryz.prog 62 [] [sL p_s] (RE (.os 0 0 r.length) [⟨.tr (eL r), 89, 6⟩]) := by
  unfold m_slices_Clone_I_Change at hh0; have hr := (appM_spec hh0).1
  simp only [List.nil_append] at hr
  refine FnX.mk Tryz.func62 rfl rfl ?_; intro s hs; refine PC.seq ?_; refine PC.region ?_; refine PL.op rfl (Rd.asnT rfl) ?_; refine PL.nil ?_; refine thA_n ?_; (iterate 2 refine PC.seq ?_); refine PC.region ?_; refine PL.op rfl (Rd.moveT rfl) ?_; refine PL.eqNil rfl rfl rfl ?_; intro b hb; refine PL.nil ?_; refine thA_n ?_
  cases b with
  | true =>
    have h0 : p_s = [] := List.eq_nil_of_length_eq_zero (hb rfl); subst h0; subst hr; refine PC.cond_true rfl rfl ?_; refine PC.seq ?_; refine PC.region ?_; refine PL.op rfl (Rd.asnT rfl) ?_; refine PL.nil ?_; refine thA_n ?_; refine PC.ret ?_; refine thA_r ?_; exact FinA.mk (r := .os 0 0 0) (bl := [⟨.tr (eL ([] : List I_Change)), 89, 6⟩]) [none] (.inl rfl) rfl (rl := [.tmp 2]) (.tmp .nil) rfl rfl rfl (.osn rfl) ⟨ow_nil _, trivial⟩ ⟨rfl, rfl⟩
  | false =>
    clear hr
    refine PC.cond_false rfl rfl ?_; refine PC.skip ?_; refine thA_n ?_; refine PC.seq ?_; refine PC.region ?_; refine PL.ef rfl (Ef.lit0M I_Change) ?_; refine PL.op rfl (Rd.moveT rfl) ?_; refine PL.apM hs rfl rfl rfl rfl (SrcA.eL rfl) rfl rfl rfl rfl hh0 ?_; refine PL.op rfl (Rd.asnO rfl) ?_; refine PL.nil ?_; refine thA_n ?_; refine PC.ret ?_; exact FinA.mk (r := .os 0 0 r.length) (bl := [⟨.tr (eL r), 89, 6⟩]) [some 1] (.inl rfl) rfl (rl := [.tmp 2]) (.tmp .nil) rfl rfl rfl (.os rfl) ⟨⟨_, rfl, rfl, rfl, .tr _⟩, trivial⟩ ⟨rfl, rfl⟩
def m_I_Table_clone_k1 (N : Nat) (r1 : (List I_Column)) (r3 : (List I_Change)) (v16 : (List I_Tagged)) : Option (I_Table) :=
  some (I_Table.mk r1 r3 v16)
def m_I_Table_clone_b1 (N : Nat) (p_t : I_Table) (i5 : Int) (v6 : (List I_Tagged)) : Option ((Int × (List I_Tagged)) ⊕ (List I_Tagged)) :=
  cond (decide (i5 < (p_t.rows.length : Int)))
    ((ixI p_t.rows i5).bind fun x23 =>
    (m_slices_Clone_I_Value N x23.row).bind fun r25 =>
    (appM 32 v6 [(I_Tagged.mk x23.tag r25)]).bind fun xs27 =>
    (chk (i5 + (1 : Int))).bind fun n29 =>
    some (.inl (n29, xs27)))
    (some (.inr v6))
def m_I_Table_clone (N : Nat) (p_t : I_Table) : Option (I_Table) :=
  (m_slices_Clone_I_Column N p_t.first).bind fun r1 =>
  (m_slices_Clone_I_Change N p_t.changes).bind fun r3 =>
  (loopM (β := (List I_Tagged)) (fun s : Int × (List I_Tagged) => m_I_Table_clone_b1 N p_t s.1 s.2) N ((0 : Int), ([] : List I_Tagged))).bind fun e =>
  m_I_Table_clone_k1 N r1 r3 e
theorem w_I_Table_clone (N : Nat) (p_t : I_Table) (r : I_Table) (hh0 : m_I_Table_clone N p_t = some r) : FnX Tryz.prog 37 [] [.agg [sL p_t.first, sL p_t.changes, sL p_t.rows]] (RE (.agg [.os 0 0 r.first.length, .os 1 0 r.changes.length, .os 2 0 r.rows.length]) [⟨.tr (eL r.first), 86, 4⟩, ⟨.tr (eL r.changes), 89, 6⟩, ⟨.mx (dL 3 0 r.rows), 52, 2⟩, ⟨.fm (fam r.rows), 84, 3⟩]) := by
  unfold m_I_Table_clone at hh0; refine FnX.mk Tryz.func37 rfl rfl ?_; intro s hs; refine PC.seq ?_; refine PC.region ?_; refine PL.ef rfl (Ef.box rfl rfl rfl) ?_; refine PL.nm (.op 0 0) [some ⟨.mx [sL p_t.first, sL p_t.changes, sL p_t.rows], 34, 0⟩] rfl rfl ?_; refine PL.ef rfl (Ef.alloc rfl rfl) ?_; refine PL.nm (.op 1 0) [some ⟨.mx [sL p_t.first, sL p_t.changes, sL p_t.rows], 34, 0⟩, some ⟨.mx [.t (.v (.slice none 0 0)), .t (.v (.slice none 0 0)), .t (.v (.slice none 0 0))], 34, 0⟩] rfl rfl ?_; refine PL.nil ?_; refine thA_n ?_; obtain ⟨r1, h_2, hh0⟩ := bind_some hh0; obtain ⟨r3, h_4, hh0⟩ := bind_some hh0; refine PC.cut hs (fun _ : Unit => [(1, .op 0 0), (2, .op 1 0), (3, .op 2 0)]) (fun _ => [⟨.mx [sL p_t.first, sL p_t.changes, sL p_t.rows], 34, 0⟩, ⟨.mx [.t (.v (.slice none 0 0)), .t (.v (.slice none 0 0)), .t (.v (.slice none 0 0))], 34, 0⟩, ⟨.mx [.os 3 0 r1.length, .os 4 0 r3.length, .t (.v (.slice none 0 0))], 34, 0⟩, ⟨.tr (eL r1), 86, 4⟩, ⟨.tr (eL r3), 89, 6⟩]) (fun _ => True) ?_ ?_
  · refine PC.any (id := 1) 8 (.seg [0, 1, 3, 4] (.fork (.seg [2] (.fork (.seg [5, 6, 7] .done) (.seg [7, 5, 6] .done))) (.seg [7, 2, 5, 6] .done))) [] rfl (by kernel_rfl) rfl ?_; refine PT.seg ?_; refine PR.op rfl (Rd.fieldO rfl rfl) ?_; refine PR.op rfl (Rd.loadO rfl rfl rfl) ?_; refine PR.op rfl (Rd.fieldO rfl rfl) ?_; refine PR.op rfl (Rd.loadO rfl rfl rfl) ?_; refine PR.nil ?_; refine PT.fork ?_ ?_; rotate_left
    · refine PT.seg ?_; refine PR.efX rfl rfl (Ef.alloc rfl rfl) ?_; refine PR.nm (.op 2 0) [some ⟨.mx [sL p_t.first, sL p_t.changes, sL p_t.rows], 34, 0⟩, some ⟨.mx [.t (.v (.slice none 0 0)), .t (.v (.slice none 0 0)), .t (.v (.slice none 0 0))], 34, 0⟩, some ⟨.mx [.t (.v (.slice none 0 0)), .t (.v (.slice none 0 0)), .t (.v (.slice none 0 0))], 34, 0⟩] rfl rfl ?_; refine PR.callM false [] (w_slices_Clone_I_Column N p_t.first r1 h_2) rfl Tryz.call61 rfl ⟨.t _, trivial⟩ rfl trivial (fun h => by cases h) rfl ?_; refine PR.nm (.os 3 0 r1.length) [some ⟨.mx [sL p_t.first, sL p_t.changes, sL p_t.rows], 34, 0⟩, some ⟨.mx [.t (.v (.slice none 0 0)), .t (.v (.slice none 0 0)), .t (.v (.slice none 0 0))], 34, 0⟩, some ⟨.mx [.t (.v (.slice none 0 0)), .t (.v (.slice none 0 0)), .t (.v (.slice none 0 0))], 34, 0⟩, some ⟨.tr (eL r1), 86, 4⟩] rfl rfl ?_; refine PR.callM false [] (w_slices_Clone_I_Change N p_t.changes r3 h_4) rfl Tryz.call62 rfl ⟨.t _, trivial⟩ rfl trivial (fun h => by cases h) rfl ?_; refine PR.nm (.os 4 0 r3.length) [some ⟨.mx [sL p_t.first, sL p_t.changes, sL p_t.rows], 34, 0⟩, some ⟨.mx [.t (.v (.slice none 0 0)), .t (.v (.slice none 0 0)), .t (.v (.slice none 0 0))], 34, 0⟩, some ⟨.mx [.t (.v (.slice none 0 0)), .t (.v (.slice none 0 0)), .t (.v (.slice none 0 0))], 34, 0⟩, some ⟨.tr (eL r1), 86, 4⟩, some ⟨.tr (eL r3), 89, 6⟩] rfl rfl ?_; refine PR.op rfl (Rd.build rfl rfl rfl rfl) ?_; refine PR.nil ?_; refine PT.done ?_; refine PL.store rfl rfl rfl rfl rfl rfl rfl ?_; refine PL.nO [some ⟨.mx [sL p_t.first, sL p_t.changes, sL p_t.rows], 34, 0⟩, some ⟨.mx [.t (.v (.slice none 0 0)), .t (.v (.slice none 0 0)), .t (.v (.slice none 0 0))], 34, 0⟩, some ⟨.mx [.os 3 0 r1.length, .os 4 0 r3.length, .t (.v (.slice none 0 0))], 34, 0⟩, some ⟨.tr (eL r1), 86, 4⟩, some ⟨.tr (eL r3), 89, 6⟩] rfl ?_; refine PL.nil ?_; refine thA_n ?_; exact ⟨(), trivial, [some 0, some 1, some 2, some 3, some 4], ⟨rfl, rfl, ⟨⟨_, rfl, rfl, rfl, .mx ⟨.t _, .t _, .t _, trivial⟩⟩, ⟨_, rfl, rfl, rfl, .mx ⟨.t _, .t _, .t _, trivial⟩⟩, ⟨_, rfl, rfl, rfl, .mx ⟨.os rfl, .os rfl, .t _, trivial⟩⟩, ⟨_, rfl, rfl, rfl, .tr _⟩, ⟨_, rfl, rfl, rfl, .tr _⟩, trivial⟩, ⟨.op rfl, .op rfl, .op rfl, trivial⟩⟩⟩
    refine PT.seg ?_; refine PR.callM false [] (w_slices_Clone_I_Column N p_t.first r1 h_2) rfl Tryz.call61 rfl ⟨.t _, trivial⟩ rfl trivial (fun h => by cases h) rfl ?_; refine PR.nm (.os 2 0 r1.length) [some ⟨.mx [sL p_t.first, sL p_t.changes, sL p_t.rows], 34, 0⟩, some ⟨.mx [.t (.v (.slice none 0 0)), .t (.v (.slice none 0 0)), .t (.v (.slice none 0 0))], 34, 0⟩, some ⟨.tr (eL r1), 86, 4⟩] rfl rfl ?_; refine PR.nil ?_; refine PT.fork ?_ ?_
    · refine PT.seg ?_; refine PR.callM false [] (w_slices_Clone_I_Change N p_t.changes r3 h_4) rfl Tryz.call62 rfl ⟨.t _, trivial⟩ rfl trivial (fun h => by cases h) rfl ?_; refine PR.nm (.os 3 0 r3.length) [some ⟨.mx [sL p_t.first, sL p_t.changes, sL p_t.rows], 34, 0⟩, some ⟨.mx [.t (.v (.slice none 0 0)), .t (.v (.slice none 0 0)), .t (.v (.slice none 0 0))], 34, 0⟩, some ⟨.tr (eL r1), 86, 4⟩, some ⟨.tr (eL r3), 89, 6⟩] rfl rfl ?_; refine PR.op rfl (Rd.build rfl rfl rfl rfl) ?_; refine PR.efX rfl rfl (Ef.alloc rfl rfl) ?_; refine PR.nm (.op 4 0) [some ⟨.mx [sL p_t.first, sL p_t.changes, sL p_t.rows], 34, 0⟩, some ⟨.mx [.t (.v (.slice none 0 0)), .t (.v (.slice none 0 0)), .t (.v (.slice none 0 0))], 34, 0⟩, some ⟨.tr (eL r1), 86, 4⟩, some ⟨.tr (eL r3), 89, 6⟩, some ⟨.mx [.t (.v (.slice none 0 0)), .t (.v (.slice none 0 0)), .t (.v (.slice none 0 0))], 34, 0⟩] rfl rfl ?_; refine PR.nil ?_; refine PT.done ?_; refine PL.store rfl rfl rfl rfl rfl rfl rfl ?_; refine PL.nO [some ⟨.mx [sL p_t.first, sL p_t.changes, sL p_t.rows], 34, 0⟩, some ⟨.mx [.t (.v (.slice none 0 0)), .t (.v (.slice none 0 0)), .t (.v (.slice none 0 0))], 34, 0⟩, some ⟨.tr (eL r1), 86, 4⟩, some ⟨.tr (eL r3), 89, 6⟩, some ⟨.mx [.os 2 0 r1.length, .os 3 0 r3.length, .t (.v (.slice none 0 0))], 34, 0⟩] rfl ?_; refine PL.nil ?_; refine thA_n ?_; exact ⟨(), trivial, [some 0, some 1, some 4, some 2, some 3], ⟨rfl, rfl, ⟨⟨_, rfl, rfl, rfl, .mx ⟨.t _, .t _, .t _, trivial⟩⟩, ⟨_, rfl, rfl, rfl, .mx ⟨.t _, .t _, .t _, trivial⟩⟩, ⟨_, rfl, rfl, rfl, .mx ⟨.os rfl, .os rfl, .t _, trivial⟩⟩, ⟨_, rfl, rfl, rfl, .tr _⟩, ⟨_, rfl, rfl, rfl, .tr _⟩, trivial⟩, ⟨.op rfl, .op rfl, .op rfl, trivial⟩⟩⟩
    refine PT.seg ?_; refine PR.efX rfl rfl (Ef.alloc rfl rfl) ?_; refine PR.nm (.op 3 0) [some ⟨.mx [sL p_t.first, sL p_t.changes, sL p_t.rows], 34, 0⟩, some ⟨.mx [.t (.v (.slice none 0 0)), .t (.v (.slice none 0 0)), .t (.v (.slice none 0 0))], 34, 0⟩, some ⟨.tr (eL r1), 86, 4⟩, some ⟨.mx [.t (.v (.slice none 0 0)), .t (.v (.slice none 0 0)), .t (.v (.slice none 0 0))], 34, 0⟩] rfl rfl ?_; refine PR.callM false [] (w_slices_Clone_I_Change N p_t.changes r3 h_4) rfl Tryz.call62 rfl ⟨.t _, trivial⟩ rfl trivial (fun h => by cases h) rfl ?_; refine PR.nm (.os 4 0 r3.length) [some ⟨.mx [sL p_t.first, sL p_t.changes, sL p_t.rows], 34, 0⟩, some ⟨.mx [.t (.v (.slice none 0 0)), .t (.v (.slice none 0 0)), .t (.v (.slice none 0 0))], 34, 0⟩, some ⟨.tr (eL r1), 86, 4⟩, some ⟨.mx [.t (.v (.slice none 0 0)), .t (.v (.slice none 0 0)), .t (.v (.slice none 0 0))], 34, 0⟩, some ⟨.tr (eL r3), 89, 6⟩] rfl rfl ?_; refine PR.op rfl (Rd.build rfl rfl rfl rfl) ?_; refine PR.nil ?_; refine PT.done ?_; refine PL.store rfl rfl rfl rfl rfl rfl rfl ?_; refine PL.nO [some ⟨.mx [sL p_t.first, sL p_t.changes, sL p_t.rows], 34, 0⟩, some ⟨.mx [.t (.v (.slice none 0 0)), .t (.v (.slice none 0 0)), .t (.v (.slice none 0 0))], 34, 0⟩, some ⟨.tr (eL r1), 86, 4⟩, some ⟨.mx [.os 2 0 r1.length, .os 4 0 r3.length, .t (.v (.slice none 0 0))], 34, 0⟩, some ⟨.tr (eL r3), 89, 6⟩] rfl ?_; refine PL.nil ?_; refine thA_n ?_; exact ⟨(), trivial, [some 0, some 1, some 3, some 2, some 4], ⟨rfl, rfl, ⟨⟨_, rfl, rfl, rfl, .mx ⟨.t _, .t _, .t _, trivial⟩⟩, ⟨_, rfl, rfl, rfl, .mx ⟨.t _, .t _, .t _, trivial⟩⟩, ⟨_, rfl, rfl, rfl, .mx ⟨.os rfl, .os rfl, .t _, trivial⟩⟩, ⟨_, rfl, rfl, rfl, .tr _⟩, ⟨_, rfl, rfl, rfl, .tr _⟩, trivial⟩, ⟨.op rfl, .op rfl, .op rfl, trivial⟩⟩⟩
  rintro ⟨⟩ -
  (iterate 2 refine PC.seq ?_); refine PC.region ?_; refine PL.op rfl (Rd.fieldO rfl rfl) ?_; refine PL.op rfl (Rd.loadO rfl rfl rfl) ?_; refine PL.op rfl (Rd.lenT rfl) ?_; refine PL.op rfl (Rd.moveT rfl) ?_; refine PL.nil ?_; refine thA_n ?_; obtain ⟨o17, h_18, hh0⟩ := bind_some hh0; refine PC.cutE hs (fun x : (List I_Tagged) => [(2, .op 0 0), (3, .op 1 0)]) (fun x => [⟨.mx [.t (.v (.slice none 0 0)), .t (.v (.slice none 0 0)), .t (.v (.slice none 0 0))], 34, 0⟩, ⟨.mx [.os 2 0 r1.length, .os 3 0 r3.length, .os 4 0 x.length], 34, 0⟩, ⟨.tr (eL r1), 86, 4⟩, ⟨.tr (eL r3), 89, 6⟩, ⟨.mx (dL 5 0 x), 52, 2⟩, ⟨.fm (fam x), 84, 3⟩]) (fun x => m_I_Table_clone_k1 N r1 r3 x = some r) ?_ ?_
  · refine PC.block ?_; refine PC.loop hs (fun x : Nat × (Int × (List I_Tagged)) => [(2, .op 0 0), (3, .op 1 0), (14, sL p_t.rows), (15, iA (p_t.rows.length : Int)), (16, iA x.2.1)]) (fun x => [⟨.mx [.t (.v (.slice none 0 0)), .t (.v (.slice none 0 0)), .t (.v (.slice none 0 0))], 34, 0⟩, ⟨.mx [.os 2 0 r1.length, .os 3 0 r3.length, .os 4 0 x.2.2.length], 34, 0⟩, ⟨.tr (eL r1), 86, 4⟩, ⟨.tr (eL r3), 89, 6⟩, ⟨.mx (dL 5 0 x.2.2), 52, 2⟩, ⟨.fm (fam x.2.2), 84, 3⟩]) (fun x => loopM (β := (List I_Tagged)) (fun s : Int × (List I_Tagged) => m_I_Table_clone_b1 N p_t s.1 s.2) x.1 x.2 = some o17) (fun x => x.1) (N, ((0 : Int), ([] : List I_Tagged))) [some 1, some 2, some 3, some 4, none, none] ⟨rfl, rfl, ⟨⟨_, rfl, rfl, rfl, .mx ⟨.t _, .t _, .t _, trivial⟩⟩, ⟨_, rfl, rfl, rfl, .mx ⟨.os rfl, .os rfl, .osn rfl, trivial⟩⟩, ⟨_, rfl, rfl, rfl, .tr _⟩, ⟨_, rfl, rfl, rfl, .tr _⟩, rfl, rfl, trivial⟩, ⟨.op rfl, .op rfl, .t _, .t _, .t _, trivial⟩⟩ h_18 ?_
    rintro ⟨f19_, i5, v6⟩ h_21
    obtain ⟨f19, y20, rfl, hh1, kk1⟩ := loopM_some h_21
    replace hh1 : m_I_Table_clone_b1 N p_t i5 v6 = some y20 := hh1
    unfold m_I_Table_clone_b1 at hh1; refine PC.seq ?_; refine PC.region ?_; refine PL.op rfl (Rd.lss rfl rfl) ?_; refine PL.nil ?_; refine thA_n ?_; refine PC.seq ?_; rcases cond_some hh1 with ⟨h_22, hh1⟩ | ⟨h_22, hh1⟩; rotate_left
    · refine PC.cond_false rfl h_22 ?_; refine PC.exit ?_; (iterate 2 refine thA_e ?_); refine inA_eq rfl ?_; refine thA_n ?_; obtain rfl := some_in hh1; obtain rfl : (v6 : (List I_Tagged)) = o17 := kk1; exact ⟨v6, hh0, [some 0, some 1, some 2, some 3, some 4, some 5], ⟨rfl, rfl, ⟨⟨_, rfl, rfl, rfl, .mx ⟨.t _, .t _, .t _, trivial⟩⟩, ⟨_, rfl, rfl, rfl, .mx ⟨.os rfl, .os rfl, .os rfl, trivial⟩⟩, ⟨_, rfl, rfl, rfl, .tr _⟩, ⟨_, rfl, rfl, rfl, .tr _⟩, ⟨_, rfl, rfl, rfl, .mx (sb_dL rfl 0 _)⟩, ⟨_, rfl, rfl, rfl, .fm _⟩, trivial⟩, ⟨.op rfl, .op rfl, trivial⟩⟩⟩
    refine PC.cond_true rfl h_22 ?_; refine PC.skip ?_; refine thA_n ?_; refine PC.seq ?_; refine PC.block ?_; refine PC.seq ?_; obtain ⟨x23, h_24, hh1⟩ := bind_some hh1; refine PC.region ?_; refine PL.op rfl (Rd.ixM rfl rfl h_24) ?_; refine PL.op rfl (Rd.elMR rfl h_24 rfl rfl) ?_; refine PL.ef rfl (Ef.alloc rfl rfl) ?_; refine PL.nm (.op 6 0) [some ⟨.mx [.t (.v (.slice none 0 0)), .t (.v (.slice none 0 0)), .t (.v (.slice none 0 0))], 34, 0⟩, some ⟨.mx [.os 2 0 r1.length, .os 3 0 r3.length, .os 4 0 v6.length], 34, 0⟩, some ⟨.tr (eL r1), 86, 4⟩, some ⟨.tr (eL r3), 89, 6⟩, some ⟨.mx (dL 5 0 v6), 52, 2⟩, some ⟨.fm (fam v6), 84, 3⟩, some ⟨.mx [iA (0 : Int), .t (.v (.slice none 0 0))], 52, 0⟩] rfl rfl ?_; refine PL.store rfl rfl rfl rfl rfl rfl rfl ?_; refine PL.nO [some ⟨.mx [.t (.v (.slice none 0 0)), .t (.v (.slice none 0 0)), .t (.v (.slice none 0 0))], 34, 0⟩, some ⟨.mx [.os 2 0 r1.length, .os 3 0 r3.length, .os 4 0 v6.length], 34, 0⟩, some ⟨.tr (eL r1), 86, 4⟩, some ⟨.tr (eL r3), 89, 6⟩, some ⟨.mx (dL 5 0 v6), 52, 2⟩, some ⟨.fm (fam v6), 84, 3⟩, some ⟨.mx [iA x23.tag, sL x23.row], 52, 0⟩] rfl ?_; refine PL.nil ?_; refine thA_n ?_; obtain ⟨r25, h_26, hh1⟩ := bind_some hh1; obtain ⟨xs27, h_28, hh1⟩ := bind_some hh1; refine PC.any (id := 5) 9 (.seg [0, 1, 2, 3, 4, 5, 6, 7, 8] .done) [] rfl (by kernel_rfl) rfl ?_; refine PT.seg ?_; refine PR.op rfl (Rd.fieldO rfl rfl) ?_; refine PR.op rfl (Rd.loadO rfl rfl rfl) ?_; refine PR.op rfl (Rd.fieldO rfl rfl) ?_; refine PR.op rfl (Rd.loadO rfl rfl rfl) ?_; refine PR.op rfl (Rd.fieldO rfl rfl) ?_; refine PR.op rfl (Rd.loadO rfl rfl rfl) ?_; refine PR.callM false [] (w_slices_Clone_I_Value N x23.row r25 h_26) rfl Tryz.call63 rfl ⟨.t _, trivial⟩ rfl trivial (fun h => by cases h) rfl ?_; refine PR.nm (.os 7 0 r25.length) [some ⟨.mx [.t (.v (.slice none 0 0)), .t (.v (.slice none 0 0)), .t (.v (.slice none 0 0))], 34, 0⟩, some ⟨.mx [.os 2 0 r1.length, .os 3 0 r3.length, .os 4 0 v6.length], 34, 0⟩, some ⟨.tr (eL r1), 86, 4⟩, some ⟨.tr (eL r3), 89, 6⟩, some ⟨.mx (dL 5 0 v6), 52, 2⟩, some ⟨.fm (fam v6), 84, 3⟩, some ⟨.mx [iA x23.tag, sL x23.row], 52, 0⟩, some ⟨.tr (eL r25), 84, 3⟩] rfl rfl ?_; refine PR.op rfl (Rd.build rfl rfl rfl rfl) ?_; refine PR.ef rfl rfl (Ef.lit (cs := [iA x23.tag, .os 7 0 r25.length]) [_] rfl rfl (by decide) rfl rfl rfl rfl) ?_; refine PR.nm (.os 8 0 1) [some ⟨.mx [.t (.v (.slice none 0 0)), .t (.v (.slice none 0 0)), .t (.v (.slice none 0 0))], 34, 0⟩, some ⟨.mx [.os 2 0 r1.length, .os 3 0 r3.length, .os 4 0 v6.length], 34, 0⟩, some ⟨.tr (eL r1), 86, 4⟩, some ⟨.tr (eL r3), 89, 6⟩, some ⟨.mx (dL 5 0 v6), 52, 2⟩, some ⟨.fm (fam v6), 84, 3⟩, some ⟨.mx [iA x23.tag, sL x23.row], 52, 0⟩, some ⟨.tr (eL r25), 84, 3⟩, some ⟨.mx [iA x23.tag, .os 7 0 r25.length], 52, 2⟩] rfl rfl ?_; refine PR.nil ?_; refine PT.done ?_; refine PL.apD hs (I_Tagged.mk x23.tag r25) rfl rfl rfl rfl rfl rfl rfl rfl rfl rfl rfl rfl rfl rfl rfl rfl rfl rfl h_28 ?_; refine PL.nm (.os 9 0 xs27.length) [some ⟨.mx [.t (.v (.slice none 0 0)), .t (.v (.slice none 0 0)), .t (.v (.slice none 0 0))], 34, 0⟩, some ⟨.mx [.os 2 0 r1.length, .os 3 0 r3.length, .os 4 0 v6.length], 34, 0⟩, some ⟨.tr (eL r1), 86, 4⟩, some ⟨.tr (eL r3), 89, 6⟩, none, none, some ⟨.mx [iA x23.tag, sL x23.row], 52, 0⟩, none, some ⟨.mx [iA x23.tag, .os 7 0 r25.length], 52, 2⟩, some ⟨.mx (dL 10 0 xs27), 52, 2⟩, some ⟨.fm (fam xs27), 84, 3⟩] rfl rfl ?_; refine PL.op rfl (Rd.fieldO rfl rfl) ?_; refine PL.store rfl rfl rfl rfl rfl rfl rfl ?_; refine PL.nO [some ⟨.mx [.t (.v (.slice none 0 0)), .t (.v (.slice none 0 0)), .t (.v (.slice none 0 0))], 34, 0⟩, some ⟨.mx [.os 2 0 r1.length, .os 3 0 r3.length, .os 9 0 xs27.length], 34, 0⟩, some ⟨.tr (eL r1), 86, 4⟩, some ⟨.tr (eL r3), 89, 6⟩, none, none, some ⟨.mx [iA x23.tag, sL x23.row], 52, 0⟩, none, some ⟨.mx [iA x23.tag, .os 7 0 r25.length], 52, 2⟩, some ⟨.mx (dL 10 0 xs27), 52, 2⟩, some ⟨.fm (fam xs27), 84, 3⟩] rfl ?_; refine PL.nil ?_; refine inA_n ?_; refine thA_n ?_; obtain ⟨n29, h_30, hh1⟩ := bind_some hh1; refine PC.region ?_; refine PL.op rfl (Rd.addM rfl rfl h_30) ?_; refine PL.op rfl (Rd.moveT rfl) ?_; refine PL.nil ?_; obtain rfl := some_in hh1; refine thA_n ?_; exact ⟨(f19, (n29, xs27)), Nat.lt_succ_self _, kk1, [some 0, some 1, some 2, some 3, some 9, some 10], ⟨rfl, rfl, ⟨⟨_, rfl, rfl, rfl, .mx ⟨.t _, .t _, .t _, trivial⟩⟩, ⟨_, rfl, rfl, rfl, .mx ⟨.os rfl, .os rfl, .os rfl, trivial⟩⟩, ⟨_, rfl, rfl, rfl, .tr _⟩, ⟨_, rfl, rfl, rfl, .tr _⟩, ⟨_, rfl, rfl, rfl, .mx (sb_dL rfl 0 _)⟩, ⟨_, rfl, rfl, rfl, .fm _⟩, trivial⟩, ⟨.op rfl, .op rfl, .t _, .t _, .t _, trivial⟩⟩⟩
  clear hh0
  rintro v16 hh0
  replace hh0 : m_I_Table_clone_k1 N r1 r3 v16 = some r := hh0
  unfold m_I_Table_clone_k1 at hh0; refine thA_n ?_; refine PC.seq ?_; refine PC.region ?_; refine PL.op rfl (Rd.loadBox rfl rfl rfl) ?_; refine PL.store rfl rfl rfl rfl rfl rfl rfl ?_; refine PL.nO [some ⟨.mx [.os 2 0 r1.length, .os 3 0 r3.length, .os 4 0 v16.length], 34, 0⟩, some ⟨.mx [.os 2 0 r1.length, .os 3 0 r3.length, .os 4 0 v16.length], 34, 0⟩, some ⟨.tr (eL r1), 86, 4⟩, some ⟨.tr (eL r3), 89, 6⟩, some ⟨.mx (dL 5 0 v16), 52, 2⟩, some ⟨.fm (fam v16), 84, 3⟩] rfl ?_; refine PL.nil ?_; refine thA_n ?_; refine PC.ret ?_; obtain rfl := some_in hh0; exact FinA.mk (r := .agg [.os 0 0 r1.length, .os 1 0 r3.length, .os 2 0 v16.length]) (bl := [⟨.tr (eL r1), 86, 4⟩, ⟨.tr (eL r3), 89, 6⟩, ⟨.mx (dL 3 0 v16), 52, 2⟩, ⟨.fm (fam v16), 84, 3⟩]) [some 2, some 3, some 4, some 5] (.inl rfl) rfl (rl := [.cell 2 34]) (.cellN rfl rfl rfl rfl .nil) rfl rfl rfl (.aggL ⟨.os rfl, .os rfl, .os rfl, trivial⟩) ⟨⟨_, rfl, rfl, rfl, .tr _⟩, ⟨_, rfl, rfl, rfl, .tr _⟩, ⟨_, rfl, rfl, rfl, .mx (sb_dL rfl 0 _)⟩, ⟨_, rfl, rfl, rfl, .fm _⟩, trivial⟩ ⟨rfl, rfl⟩
def m_I_RewriteRows_k1 (N : Nat) (r5 : (I_Table)) (v29 : (List I_Tagged)) : Option (I_Table) :=
  some (I_Table.mk r5.first r5.changes v29)
def m_I_RewriteRows_b1 (N : Nat) (p_t : I_Table) (r5 : (I_Table)) (i7 : Int) (many8 : Int) (v9 : (List I_Tagged)) : Option ((Int × Int × (List I_Tagged)) ⊕ (List I_Tagged)) :=
  cond (decide (i7 < (r5.rows.length : Int)))
    ((ixI v9 i7).bind fun x36 =>
    cond (decide ((0 : Int) < many8))
      ((m_I_Table_last N p_t).bind fun r39 =>
      cond (decide (x36.tag = r39))
        ((chk (i7 + (1 : Int))).bind fun n42 =>
        some (.inl (n42, many8, v9)))
        ((m_I_Table_last N p_t).bind fun r44 =>
        (m_I_Table_read N p_t x36).bind fun r46 =>
        (chk (many8 - (1 : Int))).bind fun n48 =>
        (chk (i7 + (1 : Int))).bind fun n50 =>
        some (.inl (n50, n48, (v9.set i7.toNat (I_Tagged.mk r44 r46))))))
      ((chk (i7 + (1 : Int))).bind fun n52 =>
      some (.inl (n52, many8, v9))))
    (some (.inr v9))
def m_I_RewriteRows (N : Nat) (p_t : I_Table) (p_many : Int) : Option (I_Table) :=
  (m_I_ValidTable N p_t).bind fun r1 =>
  cond r1
    (cond (decide (p_many < (0 : Int)))
      (some (I_Table.mk ([] : List I_Column) ([] : List I_Change) ([] : List I_Tagged)))
      ((m_I_Table_clone N p_t).bind fun r5 =>
      (loopM (β := (List I_Tagged)) (fun s : Int × Int × (List I_Tagged) => m_I_RewriteRows_b1 N p_t r5 s.1 s.2.1 s.2.2) N ((0 : Int), p_many, r5.rows)).bind fun e =>
      m_I_RewriteRows_k1 N r5 e))
    (some (I_Table.mk ([] : List I_Column) ([] : List I_Change) ([] : List I_Tagged)))
theorem w_I_RewriteRows (N : Nat) (p_t : I_Table) (p_many : Int) (r : I_Table) (hh0 : m_I_RewriteRows N p_t p_many = some r) : FnX Tryz.prog 15 [] [.agg [sL p_t.first, sL p_t.changes, sL p_t.rows], iA p_many] (RE (.agg [.os 0 0 r.first.length, .os 1 0 r.changes.length, .os 2 0 r.rows.length]) [⟨.tr (eL r.first), 86, 4⟩, ⟨.tr (eL r.changes), 89, 6⟩, ⟨.mx (dL 3 0 r.rows), 52, 2⟩, ⟨.fm (fam r.rows), 84, 3⟩]) := by
  unfold m_I_RewriteRows at hh0; refine FnX.mk Tryz.func15 rfl rfl ?_; intro s hs; refine PC.seq ?_; refine PC.region ?_; refine PL.ef rfl (Ef.box rfl rfl rfl) ?_; refine PL.nm (.op 0 0) [some ⟨.mx [sL p_t.first, sL p_t.changes, sL p_t.rows], 34, 0⟩] rfl rfl ?_; refine PL.ef rfl (Ef.alloc rfl rfl) ?_; refine PL.nm (.op 1 0) [some ⟨.mx [sL p_t.first, sL p_t.changes, sL p_t.rows], 34, 0⟩, some ⟨.mx [.t (.v (.slice none 0 0)), .t (.v (.slice none 0 0)), .t (.v (.slice none 0 0))], 34, 0⟩] rfl rfl ?_; refine PL.nil ?_; refine thA_n ?_; (iterate 2 refine PC.seq ?_); obtain ⟨r1, h_2, hh0⟩ := bind_some hh0; rcases cond_some hh0 with ⟨h_3, hh0⟩ | ⟨h_3, hh0⟩; rotate_left
  · refine PC.region ?_; refine PL.op rfl (Rd.loadBox rfl rfl rfl) ?_; refine PL.callM false [] (w_I_ValidTable N p_t r1 h_2) rfl Tryz.call25 rfl ⟨.aggL ⟨.t _, .t _, .t _, trivial⟩, trivial⟩ rfl trivial (fun h => by cases h) ?_; refine PL.op rfl (Rd.unnot rfl) ?_; refine PL.op rfl (Rd.moveT rfl) ?_; (iterate 2 refine PL.guard_off rfl rfl (not_f h_3) ?_); refine PL.op rfl (Rd.pick_t rfl (not_f h_3)) ?_; refine PL.nil ?_; refine thA_n ?_; refine PC.cond_true rfl rfl ?_; refine PC.seq ?_; refine PC.region ?_; refine PL.op rfl (Rd.build rfl rfl rfl rfl) ?_; refine PL.store rfl rfl rfl rfl rfl rfl rfl ?_; refine PL.nil ?_; refine thA_n ?_; refine PC.ret ?_; refine thA_r ?_; obtain rfl := some_in hh0; exact FinA.mk (r := .agg [.os 0 0 0, .os 1 0 0, .os 2 0 0]) (bl := [⟨.tr (eL ([] : List I_Column)), 86, 4⟩, ⟨.tr (eL ([] : List I_Change)), 89, 6⟩, ⟨.mx (dL 3 0 ([] : List I_Tagged)), 52, 2⟩, ⟨.fm (fam ([] : List I_Tagged)), 84, 3⟩]) [none, none, none, none] (.inl rfl) rfl (rl := [.cell 4 34]) (.cellN rfl rfl rfl rfl .nil) rfl rfl rfl (.aggL ⟨.osn rfl, .osn rfl, .osn rfl, trivial⟩) ⟨ow_nil _, ow_nil _, rfl, rfl, trivial⟩ ⟨rfl, rfl⟩
  refine PC.region ?_; refine PL.op rfl (Rd.loadBox rfl rfl rfl) ?_; refine PL.callM false [] (w_I_ValidTable N p_t r1 h_2) rfl Tryz.call25 rfl ⟨.aggL ⟨.t _, .t _, .t _, trivial⟩, trivial⟩ rfl trivial (fun h => by cases h) ?_; refine PL.op rfl (Rd.unnot rfl) ?_; refine PL.op rfl (Rd.moveT rfl) ?_; refine PL.guard_on rfl (not_t h_3) ?_; refine PL.op rfl (Rd.moveT rfl) ?_; refine PL.guard_on rfl (not_t h_3) ?_; refine PL.op rfl (Rd.lss rfl rfl) ?_; refine PL.op rfl (Rd.pick_f rfl (not_t h_3)) ?_; refine PL.nil ?_; refine thA_n ?_; rcases cond_some hh0 with ⟨h_4, hh0⟩ | ⟨h_4, hh0⟩
  · refine PC.cond_true rfl h_4 ?_; refine PC.seq ?_; refine PC.region ?_; refine PL.op rfl (Rd.build rfl rfl rfl rfl) ?_; refine PL.store rfl rfl rfl rfl rfl rfl rfl ?_; refine PL.nil ?_; refine thA_n ?_; refine PC.ret ?_; refine thA_r ?_; obtain rfl := some_in hh0; exact FinA.mk (r := .agg [.os 0 0 0, .os 1 0 0, .os 2 0 0]) (bl := [⟨.tr (eL ([] : List I_Column)), 86, 4⟩, ⟨.tr (eL ([] : List I_Change)), 89, 6⟩, ⟨.mx (dL 3 0 ([] : List I_Tagged)), 52, 2⟩, ⟨.fm (fam ([] : List I_Tagged)), 84, 3⟩]) [none, none, none, none] (.inl rfl) rfl (rl := [.cell 4 34]) (.cellN rfl rfl rfl rfl .nil) rfl rfl rfl (.aggL ⟨.osn rfl, .osn rfl, .osn rfl, trivial⟩) ⟨ow_nil _, ow_nil _, rfl, rfl, trivial⟩ ⟨rfl, rfl⟩
  refine PC.cond_false rfl h_4 ?_; refine PC.skip ?_; refine thA_n ?_; refine PC.seq ?_; obtain ⟨r5, h_6, hh0⟩ := bind_some hh0; refine PC.region ?_; refine PL.op rfl (Rd.loadBox rfl rfl rfl) ?_; refine PL.callM false [] (w_I_Table_clone N p_t r5 h_6) rfl Tryz.call37 rfl ⟨.aggL ⟨.t _, .t _, .t _, trivial⟩, trivial⟩ rfl trivial (fun h => by cases h) ?_; refine PL.nm (.agg [.os 2 0 r5.first.length, .os 3 0 r5.changes.length, .os 4 0 r5.rows.length]) [some ⟨.mx [sL p_t.first, sL p_t.changes, sL p_t.rows], 34, 0⟩, some ⟨.mx [.t (.v (.slice none 0 0)), .t (.v (.slice none 0 0)), .t (.v (.slice none 0 0))], 34, 0⟩, some ⟨.tr (eL r5.first), 86, 4⟩, some ⟨.tr (eL r5.changes), 89, 6⟩, some ⟨.mx (dL 5 0 r5.rows), 52, 2⟩, some ⟨.fm (fam r5.rows), 84, 3⟩] rfl (by (conv => rhs; rw [show dL 5 0 r5.rows = AV.renL (thet [] 2) (dL 3 0 r5.rows) from (dL_ren (thet [] 2) 3 0 r5.rows).symm]); rfl) ?_; refine PL.ef rfl (Ef.alloc rfl rfl) ?_; refine PL.nm (.op 6 0) [some ⟨.mx [sL p_t.first, sL p_t.changes, sL p_t.rows], 34, 0⟩, some ⟨.mx [.t (.v (.slice none 0 0)), .t (.v (.slice none 0 0)), .t (.v (.slice none 0 0))], 34, 0⟩, some ⟨.tr (eL r5.first), 86, 4⟩, some ⟨.tr (eL r5.changes), 89, 6⟩, some ⟨.mx (dL 5 0 r5.rows), 52, 2⟩, some ⟨.fm (fam r5.rows), 84, 3⟩, some ⟨.mx [.t (.v (.slice none 0 0)), .t (.v (.slice none 0 0)), .t (.v (.slice none 0 0))], 34, 0⟩] rfl rfl ?_; refine PL.store rfl rfl rfl rfl rfl rfl rfl ?_; refine PL.nO [some ⟨.mx [sL p_t.first, sL p_t.changes, sL p_t.rows], 34, 0⟩, some ⟨.mx [.t (.v (.slice none 0 0)), .t (.v (.slice none 0 0)), .t (.v (.slice none 0 0))], 34, 0⟩, some ⟨.tr (eL r5.first), 86, 4⟩, some ⟨.tr (eL r5.changes), 89, 6⟩, some ⟨.mx (dL 5 0 r5.rows), 52, 2⟩, some ⟨.fm (fam r5.rows), 84, 3⟩, some ⟨.mx [.os 2 0 r5.first.length, .os 3 0 r5.changes.length, .os 4 0 r5.rows.length], 34, 0⟩] rfl ?_; refine PL.nil ?_; refine thA_n ?_; (iterate 2 refine PC.seq ?_); refine PC.region ?_; refine PL.op rfl (Rd.fieldO rfl rfl) ?_; refine PL.op rfl (Rd.loadO rfl rfl rfl) ?_; refine PL.op rfl (Rd.lenO rfl rfl) ?_; refine PL.op rfl (Rd.moveT rfl) ?_; refine PL.nil ?_; refine thA_n ?_; obtain ⟨o30, h_31, hh0⟩ := bind_some hh0; refine PC.cutE hs (fun x : (List I_Tagged) => [(4, .op 0 0), (5, .op 1 0)]) (fun x => [⟨.mx [.t (.v (.slice none 0 0)), .t (.v (.slice none 0 0)), .t (.v (.slice none 0 0))], 34, 0⟩, ⟨.mx [.os 2 0 r5.first.length, .os 3 0 r5.changes.length, .os 4 0 x.length], 34, 0⟩, ⟨.tr (eL r5.first), 86, 4⟩, ⟨.tr (eL r5.changes), 89, 6⟩, ⟨.mx (dL 5 0 x), 52, 2⟩, ⟨.fm (fam x), 84, 3⟩]) (fun x => m_I_RewriteRows_k1 N r5 x = some r) ?_ ?_
  · refine PC.block ?_; refine PC.loop hs (fun x : Nat × (Int × Int × (List I_Tagged)) => [(1, iA x.2.2.1), (2, .op 0 0), (4, .op 1 0), (5, .op 2 0), (19, .os 5 0 x.2.2.2.length), (20, iA (r5.rows.length : Int)), (21, iA x.2.1)]) (fun x => [⟨.mx [sL p_t.first, sL p_t.changes, sL p_t.rows], 34, 0⟩, ⟨.mx [.t (.v (.slice none 0 0)), .t (.v (.slice none 0 0)), .t (.v (.slice none 0 0))], 34, 0⟩, ⟨.mx [.os 3 0 r5.first.length, .os 4 0 r5.changes.length, .os 5 0 x.2.2.2.length], 34, 0⟩, ⟨.tr (eL r5.first), 86, 4⟩, ⟨.tr (eL r5.changes), 89, 6⟩, ⟨.mx (dL 6 0 x.2.2.2), 52, 2⟩, ⟨.fm (fam x.2.2.2), 84, 3⟩]) (fun x => loopM (β := (List I_Tagged)) (fun s : Int × Int × (List I_Tagged) => m_I_RewriteRows_b1 N p_t r5 s.1 s.2.1 s.2.2) x.1 x.2 = some o30) (fun x => x.1) (N, ((0 : Int), p_many, r5.rows)) [some 0, some 1, some 6, some 2, some 3, some 4, some 5] ⟨rfl, rfl, ⟨⟨_, rfl, rfl, rfl, .mx ⟨.t _, .t _, .t _, trivial⟩⟩, ⟨_, rfl, rfl, rfl, .mx ⟨.t _, .t _, .t _, trivial⟩⟩, ⟨_, rfl, rfl, rfl, .mx ⟨.os rfl, .os rfl, .os rfl, trivial⟩⟩, ⟨_, rfl, rfl, rfl, .tr _⟩, ⟨_, rfl, rfl, rfl, .tr _⟩, ⟨_, rfl, rfl, rfl, .mx (sb_dL rfl 0 _)⟩, ⟨_, rfl, rfl, rfl, .fm _⟩, trivial⟩, ⟨.t _, .op rfl, .op rfl, .op rfl, .os rfl, .t _, .t _, trivial⟩⟩ h_31 ?_
    rintro ⟨f32_, i7, many8, v9⟩ h_34
    obtain ⟨f32, y33, rfl, hh1, kk1⟩ := loopM_some h_34
    replace hh1 : m_I_RewriteRows_b1 N p_t r5 i7 many8 v9 = some y33 := hh1
    unfold m_I_RewriteRows_b1 at hh1; refine PC.seq ?_; refine PC.region ?_; refine PL.op rfl (Rd.lss rfl rfl) ?_; refine PL.nil ?_; refine thA_n ?_; refine PC.seq ?_; rcases cond_some hh1 with ⟨h_35, hh1⟩ | ⟨h_35, hh1⟩; rotate_left
    · refine PC.cond_false rfl h_35 ?_; refine PC.exit ?_; (iterate 2 refine thA_e ?_); refine inA_eq rfl ?_; refine thA_n ?_; obtain rfl := some_in hh1; obtain rfl : (v9 : (List I_Tagged)) = o30 := kk1; exact ⟨v9, hh0, [some 1, some 2, some 3, some 4, some 5, some 6], ⟨rfl, rfl, ⟨⟨_, rfl, rfl, rfl, .mx ⟨.t _, .t _, .t _, trivial⟩⟩, ⟨_, rfl, rfl, rfl, .mx ⟨.os rfl, .os rfl, .os rfl, trivial⟩⟩, ⟨_, rfl, rfl, rfl, .tr _⟩, ⟨_, rfl, rfl, rfl, .tr _⟩, ⟨_, rfl, rfl, rfl, .mx (sb_dL rfl 0 _)⟩, ⟨_, rfl, rfl, rfl, .fm _⟩, trivial⟩, ⟨.op rfl, .op rfl, trivial⟩⟩⟩
    refine PC.cond_true rfl h_35 ?_; refine PC.skip ?_; refine thA_n ?_; refine PC.seq ?_; refine PC.block ?_; refine PC.seq ?_; obtain ⟨x36, h_37, hh1⟩ := bind_some hh1; refine PC.region ?_; refine PL.op rfl (Rd.moveT rfl) ?_; refine PL.op rfl (Rd.ixOM rfl rfl rfl (ixI_lt h_37)) ?_; refine PL.op rfl (Rd.dpRM rfl rfl rfl h_37 rfl) ?_; refine PL.ef rfl (Ef.alloc rfl rfl) ?_; refine PL.nm (.op 7 0) [some ⟨.mx [sL p_t.first, sL p_t.changes, sL p_t.rows], 34, 0⟩, some ⟨.mx [.t (.v (.slice none 0 0)), .t (.v (.slice none 0 0)), .t (.v (.slice none 0 0))], 34, 0⟩, some ⟨.mx [.os 3 0 r5.first.length, .os 4 0 r5.changes.length, .os 5 0 v9.length], 34, 0⟩, some ⟨.tr (eL r5.first), 86, 4⟩, some ⟨.tr (eL r5.changes), 89, 6⟩, some ⟨.mx (dL 6 0 v9), 52, 2⟩, some ⟨.fm (fam v9), 84, 3⟩, some ⟨.mx [iA (0 : Int), .t (.v (.slice none 0 0))], 52, 0⟩] rfl rfl ?_; refine PL.op rfl (Rd.asnT rfl) ?_; refine PL.store rfl rfl rfl rfl rfl rfl rfl ?_; refine PL.nO [some ⟨.mx [sL p_t.first, sL p_t.changes, sL p_t.rows], 34, 0⟩, some ⟨.mx [.t (.v (.slice none 0 0)), .t (.v (.slice none 0 0)), .t (.v (.slice none 0 0))], 34, 0⟩, some ⟨.mx [.os 3 0 r5.first.length, .os 4 0 r5.changes.length, .os 5 0 v9.length], 34, 0⟩, some ⟨.tr (eL r5.first), 86, 4⟩, some ⟨.tr (eL r5.changes), 89, 6⟩, some ⟨.mx (dL 6 0 v9), 52, 2⟩, some ⟨.fm (fam v9), 84, 3⟩, some ⟨.mx [iA x36.tag, .oi 6 i7.toNat x36.row.length], 52, 0⟩] rfl ?_; refine PL.nil ?_; refine thA_n ?_; refine PC.seq ?_; rcases cond_some hh1 with ⟨h_38, hh1⟩ | ⟨h_38, hh1⟩; rotate_left
    · refine PC.any (id := 7) 9 (.seg [0, 1, 2, 3, 4, 5, 6, 7, 8] .done) [] rfl (by kernel_rfl) rfl ?_; refine PT.seg ?_; refine PR.op rfl (Rd.moveT rfl) ?_; refine PR.op rfl (Rd.gtr rfl rfl) ?_; refine PR.op rfl (Rd.moveT rfl) ?_; (iterate 5 refine PR.guard_off rfl rfl h_38 ?_); refine PR.op rfl (Rd.pick_f rfl h_38) ?_; refine PR.nil ?_; refine PT.done ?_; refine PL.nil ?_; refine thA_n ?_; refine PC.cond_false rfl rfl ?_; refine PC.skip ?_; refine inA_n ?_; refine thA_n ?_; obtain ⟨n52, h_53, hh1⟩ := bind_some hh1; refine PC.region ?_; refine PL.op rfl (Rd.addM rfl rfl h_53) ?_; refine PL.op rfl (Rd.moveT rfl) ?_; refine PL.nil ?_; obtain rfl := some_in hh1; refine thA_n ?_; exact ⟨(f32, (n52, many8, v9)), Nat.lt_succ_self _, kk1, [some 0, some 1, some 2, some 3, some 4, some 5, some 6], ⟨rfl, rfl, ⟨⟨_, rfl, rfl, rfl, .mx ⟨.t _, .t _, .t _, trivial⟩⟩, ⟨_, rfl, rfl, rfl, .mx ⟨.t _, .t _, .t _, trivial⟩⟩, ⟨_, rfl, rfl, rfl, .mx ⟨.os rfl, .os rfl, .os rfl, trivial⟩⟩, ⟨_, rfl, rfl, rfl, .tr _⟩, ⟨_, rfl, rfl, rfl, .tr _⟩, ⟨_, rfl, rfl, rfl, .mx (sb_dL rfl 0 _)⟩, ⟨_, rfl, rfl, rfl, .fm _⟩, trivial⟩, ⟨.t _, .op rfl, .op rfl, .op rfl, .os rfl, .t _, .t _, trivial⟩⟩⟩
    obtain ⟨r39, h_40, hh1⟩ := bind_some hh1; refine PC.any (id := 7) 9 (.seg [0, 1, 2, 3, 4, 5, 6, 7, 8] .done) [] rfl (by kernel_rfl) rfl ?_; refine PT.seg ?_; refine PR.op rfl (Rd.moveT rfl) ?_; refine PR.op rfl (Rd.gtr rfl rfl) ?_; refine PR.op rfl (Rd.moveT rfl) ?_; refine PR.guard_on rfl rfl h_38 ?_; refine PR.op rfl (Rd.fieldO rfl rfl) ?_; refine PR.guard_on rfl rfl h_38 ?_; refine PR.op rfl (Rd.loadO rfl rfl rfl) ?_; refine PR.guard_on rfl rfl h_38 ?_; refine PR.rdE rfl rfl (Rd.loadBox rfl rfl rfl) ?_; refine PR.guard_on rfl rfl h_38 ?_; refine PR.callM false [] (w_I_Table_last N p_t r39 h_40) rfl Tryz.call38 rfl ⟨.aggL ⟨.t _, .t _, .t _, trivial⟩, trivial⟩ rfl trivial (fun h => by cases h) rfl ?_; refine PR.guard_on rfl rfl h_38 ?_; refine PR.op rfl (Rd.neq rfl rfl) ?_; refine PR.op rfl (Rd.pick_t rfl h_38) ?_; refine PR.nil ?_; refine PT.done ?_; refine PL.nil ?_; refine thA_n ?_; rcases cond_some hh1 with ⟨h_41, hh1⟩ | ⟨h_41, hh1⟩
    · refine PC.cond_false rfl (not_t h_41) ?_; refine PC.skip ?_; refine inA_n ?_; refine thA_n ?_; obtain ⟨n42, h_43, hh1⟩ := bind_some hh1; refine PC.region ?_; refine PL.op rfl (Rd.addM rfl rfl h_43) ?_; refine PL.op rfl (Rd.moveT rfl) ?_; refine PL.nil ?_; obtain rfl := some_in hh1; refine thA_n ?_; exact ⟨(f32, (n42, many8, v9)), Nat.lt_succ_self _, kk1, [some 0, some 1, some 2, some 3, some 4, some 5, some 6], ⟨rfl, rfl, ⟨⟨_, rfl, rfl, rfl, .mx ⟨.t _, .t _, .t _, trivial⟩⟩, ⟨_, rfl, rfl, rfl, .mx ⟨.t _, .t _, .t _, trivial⟩⟩, ⟨_, rfl, rfl, rfl, .mx ⟨.os rfl, .os rfl, .os rfl, trivial⟩⟩, ⟨_, rfl, rfl, rfl, .tr _⟩, ⟨_, rfl, rfl, rfl, .tr _⟩, ⟨_, rfl, rfl, rfl, .mx (sb_dL rfl 0 _)⟩, ⟨_, rfl, rfl, rfl, .fm _⟩, trivial⟩, ⟨.t _, .op rfl, .op rfl, .op rfl, .os rfl, .t _, .t _, trivial⟩⟩⟩
    refine PC.cond_true rfl (not_f h_41) ?_; obtain ⟨r44, h_45, hh1⟩ := bind_some hh1; obtain ⟨r46, h_47, hh1⟩ := bind_some hh1; refine PC.cut hs (fun _ : Unit => [(1, iA many8), (2, .op 0 0), (4, .op 1 0), (5, .op 2 0), (19, .os 5 0 v9.length), (20, iA (r5.rows.length : Int)), (21, iA i7)]) (fun _ => [⟨.mx [sL p_t.first, sL p_t.changes, sL p_t.rows], 34, 0⟩, ⟨.mx [.t (.v (.slice none 0 0)), .t (.v (.slice none 0 0)), .t (.v (.slice none 0 0))], 34, 0⟩, ⟨.mx [.os 3 0 r5.first.length, .os 4 0 r5.changes.length, .os 5 0 v9.length], 34, 0⟩, ⟨.tr (eL r5.first), 86, 4⟩, ⟨.tr (eL r5.changes), 89, 6⟩, ⟨.mx (dL 6 0 (v9.set i7.toNat (I_Tagged.mk r44 r46))), 52, 2⟩, ⟨.fm (fam (v9.set i7.toNat (I_Tagged.mk r44 r46))), 84, 3⟩]) (fun _ => True) ?_ ?_
    · refine PC.any (id := 8) 10 (.seg [0, 1, 2, 6] (.fork (.seg [3] (.fork (.seg [4, 5, 7, 8, 9] .done) (.seg [5, 4, 7, 8, 9] .done))) (.seg [5, 3, 4, 7, 8, 9] .done))) [] rfl (by kernel_rfl) rfl ?_; refine PT.seg ?_; refine PR.op rfl (Rd.fieldO rfl rfl) ?_; refine PR.op rfl (Rd.loadO rfl rfl rfl) ?_; refine PR.op rfl (Rd.moveT rfl) ?_; refine PR.op rfl (Rd.loadBox rfl rfl rfl) ?_; refine PR.nil ?_; refine PT.fork ?_ ?_; rotate_left
      · refine PT.seg ?_; (iterate 2 refine PR.rdE rfl rfl (Rd.loadBox rfl rfl rfl) ?_); refine PR.callM false [] (w_I_Table_last N p_t r44 h_45) rfl Tryz.call38 rfl ⟨.aggL ⟨.t _, .t _, .t _, trivial⟩, trivial⟩ rfl trivial (fun h => by cases h) rfl ?_; refine PR.callM true [] (w_I_Table_read N p_t x36 r46 h_47) rfl Tryz.call26 rfl ⟨.aggL ⟨.t _, .t _, .t _, trivial⟩, .aggL ⟨.t _, (Sb.fziM rfl (by first | decide | exact List.not_mem_nil) h_37 rfl rfl), trivial⟩, trivial⟩ rfl trivial (fun _ => ⟨trivial, (flat_cons flat_ow flat_nil)⟩) rfl ?_; refine PR.nm (.os 8 0 r46.length) [some ⟨.mx [sL p_t.first, sL p_t.changes, sL p_t.rows], 34, 0⟩, some ⟨.mx [.t (.v (.slice none 0 0)), .t (.v (.slice none 0 0)), .t (.v (.slice none 0 0))], 34, 0⟩, some ⟨.mx [.os 3 0 r5.first.length, .os 4 0 r5.changes.length, .os 5 0 v9.length], 34, 0⟩, some ⟨.tr (eL r5.first), 86, 4⟩, some ⟨.tr (eL r5.changes), 89, 6⟩, some ⟨.mx (dL 6 0 v9), 52, 2⟩, some ⟨.fm (fam v9), 84, 3⟩, some ⟨.mx [iA x36.tag, .oi 6 i7.toNat x36.row.length], 52, 0⟩, some ⟨.tr (eL r46), 84, 3⟩] rfl rfl ?_; refine PR.op rfl (Rd.build rfl rfl rfl rfl) ?_; refine PR.op rfl (Rd.ixOM rfl rfl rfl (ixI_lt h_37)) ?_; refine PR.nil ?_; refine PT.done ?_; refine PL.adSM hs (I_Tagged.mk r44 r46) rfl rfl rfl rfl rfl rfl rfl rfl h_37 rfl rfl rfl rfl rfl rfl rfl ?_; refine PL.nO [some ⟨.mx [sL p_t.first, sL p_t.changes, sL p_t.rows], 34, 0⟩, some ⟨.mx [.t (.v (.slice none 0 0)), .t (.v (.slice none 0 0)), .t (.v (.slice none 0 0))], 34, 0⟩, some ⟨.mx [.os 3 0 r5.first.length, .os 4 0 r5.changes.length, .os 5 0 v9.length], 34, 0⟩, some ⟨.tr (eL r5.first), 86, 4⟩, some ⟨.tr (eL r5.changes), 89, 6⟩, some ⟨.mx (dL 9 0 (v9.set i7.toNat (I_Tagged.mk r44 r46))), 52, 2⟩, none, some ⟨.mx [iA x36.tag, .oi 6 i7.toNat x36.row.length], 52, 0⟩, none, some ⟨.fm (fam (v9.set i7.toNat (I_Tagged.mk r44 r46))), 84, 3⟩] rfl ?_; refine PL.nil ?_; refine thA_n ?_; exact ⟨(), trivial, [some 0, some 1, some 2, some 3, some 4, some 5, some 9], ⟨rfl, rfl, ⟨⟨_, rfl, rfl, rfl, .mx ⟨.t _, .t _, .t _, trivial⟩⟩, ⟨_, rfl, rfl, rfl, .mx ⟨.t _, .t _, .t _, trivial⟩⟩, ⟨_, rfl, rfl, rfl, .mx ⟨.os rfl, .os rfl, .osE rfl (by simp only [List.length_set]), trivial⟩⟩, ⟨_, rfl, rfl, rfl, .tr _⟩, ⟨_, rfl, rfl, rfl, .tr _⟩, ⟨_, rfl, rfl, rfl, .mx (sb_dL rfl 0 _)⟩, ⟨_, rfl, rfl, rfl, .fm _⟩, trivial⟩, ⟨.t _, .op rfl, .op rfl, .op rfl, .osE rfl (by simp only [List.length_set]), .t _, .t _, trivial⟩⟩⟩
      refine PT.seg ?_; refine PR.rdE rfl rfl (Rd.loadBox rfl rfl rfl) ?_; refine PR.nil ?_; refine PT.fork ?_ ?_
      · refine PT.seg ?_; refine PR.callM false [] (w_I_Table_last N p_t r44 h_45) rfl Tryz.call38 rfl ⟨.aggL ⟨.t _, .t _, .t _, trivial⟩, trivial⟩ rfl trivial (fun h => by cases h) rfl ?_; refine PR.rdE rfl rfl (Rd.loadBox rfl rfl rfl) ?_; refine PR.callM true [] (w_I_Table_read N p_t x36 r46 h_47) rfl Tryz.call26 rfl ⟨.aggL ⟨.t _, .t _, .t _, trivial⟩, .aggL ⟨.t _, (Sb.fziM rfl (by first | decide | exact List.not_mem_nil) h_37 rfl rfl), trivial⟩, trivial⟩ rfl trivial (fun _ => ⟨trivial, (flat_cons flat_ow flat_nil)⟩) rfl ?_; refine PR.nm (.os 8 0 r46.length) [some ⟨.mx [sL p_t.first, sL p_t.changes, sL p_t.rows], 34, 0⟩, some ⟨.mx [.t (.v (.slice none 0 0)), .t (.v (.slice none 0 0)), .t (.v (.slice none 0 0))], 34, 0⟩, some ⟨.mx [.os 3 0 r5.first.length, .os 4 0 r5.changes.length, .os 5 0 v9.length], 34, 0⟩, some ⟨.tr (eL r5.first), 86, 4⟩, some ⟨.tr (eL r5.changes), 89, 6⟩, some ⟨.mx (dL 6 0 v9), 52, 2⟩, some ⟨.fm (fam v9), 84, 3⟩, some ⟨.mx [iA x36.tag, .oi 6 i7.toNat x36.row.length], 52, 0⟩, some ⟨.tr (eL r46), 84, 3⟩] rfl rfl ?_; refine PR.op rfl (Rd.build rfl rfl rfl rfl) ?_; refine PR.op rfl (Rd.ixOM rfl rfl rfl (ixI_lt h_37)) ?_; refine PR.nil ?_; refine PT.done ?_; refine PL.adSM hs (I_Tagged.mk r44 r46) rfl rfl rfl rfl rfl rfl rfl rfl h_37 rfl rfl rfl rfl rfl rfl rfl ?_; refine PL.nO [some ⟨.mx [sL p_t.first, sL p_t.changes, sL p_t.rows], 34, 0⟩, some ⟨.mx [.t (.v (.slice none 0 0)), .t (.v (.slice none 0 0)), .t (.v (.slice none 0 0))], 34, 0⟩, some ⟨.mx [.os 3 0 r5.first.length, .os 4 0 r5.changes.length, .os 5 0 v9.length], 34, 0⟩, some ⟨.tr (eL r5.first), 86, 4⟩, some ⟨.tr (eL r5.changes), 89, 6⟩, some ⟨.mx (dL 9 0 (v9.set i7.toNat (I_Tagged.mk r44 r46))), 52, 2⟩, none, some ⟨.mx [iA x36.tag, .oi 6 i7.toNat x36.row.length], 52, 0⟩, none, some ⟨.fm (fam (v9.set i7.toNat (I_Tagged.mk r44 r46))), 84, 3⟩] rfl ?_; refine PL.nil ?_; refine thA_n ?_; exact ⟨(), trivial, [some 0, some 1, some 2, some 3, some 4, some 5, some 9], ⟨rfl, rfl, ⟨⟨_, rfl, rfl, rfl, .mx ⟨.t _, .t _, .t _, trivial⟩⟩, ⟨_, rfl, rfl, rfl, .mx ⟨.t _, .t _, .t _, trivial⟩⟩, ⟨_, rfl, rfl, rfl, .mx ⟨.os rfl, .os rfl, .osE rfl (by simp only [List.length_set]), trivial⟩⟩, ⟨_, rfl, rfl, rfl, .tr _⟩, ⟨_, rfl, rfl, rfl, .tr _⟩, ⟨_, rfl, rfl, rfl, .mx (sb_dL rfl 0 _)⟩, ⟨_, rfl, rfl, rfl, .fm _⟩, trivial⟩, ⟨.t _, .op rfl, .op rfl, .op rfl, .osE rfl (by simp only [List.length_set]), .t _, .t _, trivial⟩⟩⟩
      refine PT.seg ?_; refine PR.rdE rfl rfl (Rd.loadBox rfl rfl rfl) ?_; refine PR.callM false [] (w_I_Table_last N p_t r44 h_45) rfl Tryz.call38 rfl ⟨.aggL ⟨.t _, .t _, .t _, trivial⟩, trivial⟩ rfl trivial (fun h => by cases h) rfl ?_; refine PR.callM true [] (w_I_Table_read N p_t x36 r46 h_47) rfl Tryz.call26 rfl ⟨.aggL ⟨.t _, .t _, .t _, trivial⟩, .aggL ⟨.t _, (Sb.fziM rfl (by first | decide | exact List.not_mem_nil) h_37 rfl rfl), trivial⟩, trivial⟩ rfl trivial (fun _ => ⟨trivial, (flat_cons flat_ow flat_nil)⟩) rfl ?_; refine PR.nm (.os 8 0 r46.length) [some ⟨.mx [sL p_t.first, sL p_t.changes, sL p_t.rows], 34, 0⟩, some ⟨.mx [.t (.v (.slice none 0 0)), .t (.v (.slice none 0 0)), .t (.v (.slice none 0 0))], 34, 0⟩, some ⟨.mx [.os 3 0 r5.first.length, .os 4 0 r5.changes.length, .os 5 0 v9.length], 34, 0⟩, some ⟨.tr (eL r5.first), 86, 4⟩, some ⟨.tr (eL r5.changes), 89, 6⟩, some ⟨.mx (dL 6 0 v9), 52, 2⟩, some ⟨.fm (fam v9), 84, 3⟩, some ⟨.mx [iA x36.tag, .oi 6 i7.toNat x36.row.length], 52, 0⟩, some ⟨.tr (eL r46), 84, 3⟩] rfl rfl ?_; refine PR.op rfl (Rd.build rfl rfl rfl rfl) ?_; refine PR.op rfl (Rd.ixOM rfl rfl rfl (ixI_lt h_37)) ?_; refine PR.nil ?_; refine PT.done ?_; refine PL.adSM hs (I_Tagged.mk r44 r46) rfl rfl rfl rfl rfl rfl rfl rfl h_37 rfl rfl rfl rfl rfl rfl rfl ?_; refine PL.nO [some ⟨.mx [sL p_t.first, sL p_t.changes, sL p_t.rows], 34, 0⟩, some ⟨.mx [.t (.v (.slice none 0 0)), .t (.v (.slice none 0 0)), .t (.v (.slice none 0 0))], 34, 0⟩, some ⟨.mx [.os 3 0 r5.first.length, .os 4 0 r5.changes.length, .os 5 0 v9.length], 34, 0⟩, some ⟨.tr (eL r5.first), 86, 4⟩, some ⟨.tr (eL r5.changes), 89, 6⟩, some ⟨.mx (dL 9 0 (v9.set i7.toNat (I_Tagged.mk r44 r46))), 52, 2⟩, none, some ⟨.mx [iA x36.tag, .oi 6 i7.toNat x36.row.length], 52, 0⟩, none, some ⟨.fm (fam (v9.set i7.toNat (I_Tagged.mk r44 r46))), 84, 3⟩] rfl ?_; refine PL.nil ?_; refine thA_n ?_; exact ⟨(), trivial, [some 0, some 1, some 2, some 3, some 4, some 5, some 9], ⟨rfl, rfl, ⟨⟨_, rfl, rfl, rfl, .mx ⟨.t _, .t _, .t _, trivial⟩⟩, ⟨_, rfl, rfl, rfl, .mx ⟨.t _, .t _, .t _, trivial⟩⟩, ⟨_, rfl, rfl, rfl, .mx ⟨.os rfl, .os rfl, .osE rfl (by simp only [List.length_set]), trivial⟩⟩, ⟨_, rfl, rfl, rfl, .tr _⟩, ⟨_, rfl, rfl, rfl, .tr _⟩, ⟨_, rfl, rfl, rfl, .mx (sb_dL rfl 0 _)⟩, ⟨_, rfl, rfl, rfl, .fm _⟩, trivial⟩, ⟨.t _, .op rfl, .op rfl, .op rfl, .osE rfl (by simp only [List.length_set]), .t _, .t _, trivial⟩⟩⟩
    rintro ⟨⟩ -
    obtain ⟨n48, h_49, hh1⟩ := bind_some hh1; refine PC.region ?_; refine PL.op rfl (Rd.moveT rfl) ?_; refine PL.op rfl (Rd.subM rfl rfl h_49) ?_; refine PL.op rfl (Rd.asnT rfl) ?_; refine PL.nil ?_; refine inA_n ?_; refine thA_n ?_; obtain ⟨n50, h_51, hh1⟩ := bind_some hh1; refine PC.region ?_; refine PL.op rfl (Rd.addM rfl rfl h_51) ?_; refine PL.op rfl (Rd.moveT rfl) ?_; refine PL.nil ?_; obtain rfl := some_in hh1; refine thA_n ?_; exact ⟨(f32, (n50, n48, (v9.set i7.toNat (I_Tagged.mk r44 r46)))), Nat.lt_succ_self _, kk1, [some 0, some 1, some 2, some 3, some 4, some 5, some 6], ⟨rfl, rfl, ⟨⟨_, rfl, rfl, rfl, .mx ⟨.t _, .t _, .t _, trivial⟩⟩, ⟨_, rfl, rfl, rfl, .mx ⟨.t _, .t _, .t _, trivial⟩⟩, ⟨_, rfl, rfl, rfl, .mx ⟨.os rfl, .os rfl, .osE rfl (by simp only [List.length_set]), trivial⟩⟩, ⟨_, rfl, rfl, rfl, .tr _⟩, ⟨_, rfl, rfl, rfl, .tr _⟩, ⟨_, rfl, rfl, rfl, .mx (sb_dL rfl 0 _)⟩, ⟨_, rfl, rfl, rfl, .fm _⟩, trivial⟩, ⟨.t _, .op rfl, .op rfl, .op rfl, .osE rfl (by simp only [List.length_set]), .t _, .t _, trivial⟩⟩⟩
  clear hh0
  rintro v29 hh0
  replace hh0 : m_I_RewriteRows_k1 N r5 v29 = some r := hh0
  unfold m_I_RewriteRows_k1 at hh0; refine thA_n ?_; refine PC.seq ?_; refine PC.region ?_; refine PL.op rfl (Rd.loadBox rfl rfl rfl) ?_; refine PL.store rfl rfl rfl rfl rfl rfl rfl ?_; refine PL.nO [some ⟨.mx [.os 2 0 r5.first.length, .os 3 0 r5.changes.length, .os 4 0 v29.length], 34, 0⟩, some ⟨.mx [.os 2 0 r5.first.length, .os 3 0 r5.changes.length, .os 4 0 v29.length], 34, 0⟩, some ⟨.tr (eL r5.first), 86, 4⟩, some ⟨.tr (eL r5.changes), 89, 6⟩, some ⟨.mx (dL 5 0 v29), 52, 2⟩, some ⟨.fm (fam v29), 84, 3⟩] rfl ?_; refine PL.nil ?_; refine thA_n ?_; refine PC.ret ?_; obtain rfl := some_in hh0; exact FinA.mk (r := .agg [.os 0 0 r5.first.length, .os 1 0 r5.changes.length, .os 2 0 v29.length]) (bl := [⟨.tr (eL r5.first), 86, 4⟩, ⟨.tr (eL r5.changes), 89, 6⟩, ⟨.mx (dL 3 0 v29), 52, 2⟩, ⟨.fm (fam v29), 84, 3⟩]) [some 2, some 3, some 4, some 5] (.inl rfl) rfl (rl := [.cell 4 34]) (.cellN rfl rfl rfl rfl .nil) rfl rfl rfl (.aggL ⟨.os rfl, .os rfl, .os rfl, trivial⟩) ⟨⟨_, rfl, rfl, rfl, .tr _⟩, ⟨_, rfl, rfl, rfl, .tr _⟩, ⟨_, rfl, rfl, rfl, .mx (sb_dL rfl 0 _)⟩, ⟨_, rfl, rfl, rfl, .fm _⟩, trivial⟩ ⟨rfl, rfl⟩
def m_S_RewriteRows_k1 (N : Nat) (r5 : (I_Table)) (v27 : (List I_Tagged)) : Option (I_Table) :=
  some (I_Table.mk r5.first r5.changes v27)
def m_S_RewriteRows_b1 (N : Nat) (p_t : I_Table) (r7 : ((List (List I_Value)))) (many9 : Int) (i10 : Int) (v11 : (List I_Tagged)) : Option ((Int × Int × (List I_Tagged)) ⊕ (List I_Tagged)) :=
  cond (decide (i10 < (p_t.rows.length : Int)))
    (cond (decide ((0 : Int) < many9))
      ((ixI p_t.rows i10).bind fun x35 =>
      cond (decide (x35.tag < (p_t.changes.length : Int)))
        ((ixI r7 i10).bind fun x38 =>
        (ixI v11 i10).bind fun x40 =>
        (chk (many9 - (1 : Int))).bind fun n42 =>
        (chk (i10 + (1 : Int))).bind fun n44 =>
        some (.inl (n42, n44, (v11.set i10.toNat (I_Tagged.mk (p_t.changes.length : Int) x38)))))
        ((chk (i10 + (1 : Int))).bind fun n46 =>
        some (.inl (many9, n46, v11))))
      (some (.inr v11)))
    (some (.inr v11))
def m_S_RewriteRows (N : Nat) (p_t : I_Table) (p_many : Int) : Option (I_Table) :=
  (m_S_validTable N p_t).bind fun r1 =>
  cond r1
    (cond (decide (p_many < (0 : Int)))
      (some (I_Table.mk ([] : List I_Column) ([] : List I_Change) ([] : List I_Tagged)))
      ((m_S_copyTable N p_t).bind fun r5 =>
      (m_S_latest N p_t).bind fun r7 =>
      (loopM (β := (List I_Tagged)) (fun s : Int × Int × (List I_Tagged) => m_S_RewriteRows_b1 N p_t r7 s.1 s.2.1 s.2.2) N (p_many, (0 : Int), r5.rows)).bind fun e =>
      m_S_RewriteRows_k1 N r5 e))
    (some (I_Table.mk ([] : List I_Column) ([] : List I_Change) ([] : List I_Tagged)))
theorem w_S_RewriteRows (N : Nat) (p_t : I_Table) (p_many : Int) (r : I_Table) (hh0 : m_S_RewriteRows N p_t p_many = some r) : FnX Tryz.prog 14 [] [.agg [sL p_t.first, sL p_t.changes, sL p_t.rows], iA p_many] (RE (.agg [.os 0 0 r.first.length, .os 1 0 r.changes.length, .os 2 0 r.rows.length]) [⟨.tr (eL r.first), 86, 4⟩, ⟨.tr (eL r.changes), 89, 6⟩, ⟨.tr (eL r.rows), 52, 2⟩]) := by
  unfold m_S_RewriteRows at hh0; refine FnX.mk Tryz.func14 rfl rfl ?_; intro s hs; refine PC.seq ?_; refine PC.region ?_; refine PL.ef rfl (Ef.box rfl rfl rfl) ?_; refine PL.nm (.op 0 0) [some ⟨.mx [sL p_t.first, sL p_t.changes, sL p_t.rows], 34, 0⟩] rfl rfl ?_; refine PL.ef rfl (Ef.alloc rfl rfl) ?_; refine PL.nm (.op 1 0) [some ⟨.mx [sL p_t.first, sL p_t.changes, sL p_t.rows], 34, 0⟩, some ⟨.mx [.t (.v (.slice none 0 0)), .t (.v (.slice none 0 0)), .t (.v (.slice none 0 0))], 34, 0⟩] rfl rfl ?_; refine PL.nil ?_; refine thA_n ?_; (iterate 2 refine PC.seq ?_); obtain ⟨r1, h_2, hh0⟩ := bind_some hh0; rcases cond_some hh0 with ⟨h_3, hh0⟩ | ⟨h_3, hh0⟩; rotate_left
  · refine PC.region ?_; refine PL.op rfl (Rd.loadBox rfl rfl rfl) ?_; refine PL.callM false [] (w_S_validTable N p_t r1 h_2) rfl Tryz.call20 rfl ⟨.aggL ⟨.t _, .t _, .t _, trivial⟩, trivial⟩ rfl trivial (fun h => by cases h) ?_; refine PL.op rfl (Rd.unnot rfl) ?_; refine PL.op rfl (Rd.moveT rfl) ?_; (iterate 2 refine PL.guard_off rfl rfl (not_f h_3) ?_); refine PL.op rfl (Rd.pick_t rfl (not_f h_3)) ?_; refine PL.nil ?_; refine thA_n ?_; refine PC.cond_true rfl rfl ?_; refine PC.seq ?_; refine PC.region ?_; refine PL.op rfl (Rd.build rfl rfl rfl rfl) ?_; refine PL.store rfl rfl rfl rfl rfl rfl rfl ?_; refine PL.nil ?_; refine thA_n ?_; refine PC.ret ?_; refine thA_r ?_; obtain rfl := some_in hh0; exact FinA.mk (r := .agg [.os 0 0 0, .os 1 0 0, .os 2 0 0]) (bl := [⟨.tr (eL ([] : List I_Column)), 86, 4⟩, ⟨.tr (eL ([] : List I_Change)), 89, 6⟩, ⟨.tr (eL ([] : List I_Tagged)), 52, 2⟩]) [none, none, none] (.inl rfl) rfl (rl := [.cell 4 34]) (.cellN rfl rfl rfl rfl .nil) rfl rfl rfl (.aggL ⟨.osn rfl, .osn rfl, .osn rfl, trivial⟩) ⟨ow_nil _, ow_nil _, ow_nil _, trivial⟩ ⟨rfl, rfl⟩
  refine PC.region ?_; refine PL.op rfl (Rd.loadBox rfl rfl rfl) ?_; refine PL.callM false [] (w_S_validTable N p_t r1 h_2) rfl Tryz.call20 rfl ⟨.aggL ⟨.t _, .t _, .t _, trivial⟩, trivial⟩ rfl trivial (fun h => by cases h) ?_; refine PL.op rfl (Rd.unnot rfl) ?_; refine PL.op rfl (Rd.moveT rfl) ?_; refine PL.guard_on rfl (not_t h_3) ?_; refine PL.op rfl (Rd.moveT rfl) ?_; refine PL.guard_on rfl (not_t h_3) ?_; refine PL.op rfl (Rd.lss rfl rfl) ?_; refine PL.op rfl (Rd.pick_f rfl (not_t h_3)) ?_; refine PL.nil ?_; refine thA_n ?_; rcases cond_some hh0 with ⟨h_4, hh0⟩ | ⟨h_4, hh0⟩
  · refine PC.cond_true rfl h_4 ?_; refine PC.seq ?_; refine PC.region ?_; refine PL.op rfl (Rd.build rfl rfl rfl rfl) ?_; refine PL.store rfl rfl rfl rfl rfl rfl rfl ?_; refine PL.nil ?_; refine thA_n ?_; refine PC.ret ?_; refine thA_r ?_; obtain rfl := some_in hh0; exact FinA.mk (r := .agg [.os 0 0 0, .os 1 0 0, .os 2 0 0]) (bl := [⟨.tr (eL ([] : List I_Column)), 86, 4⟩, ⟨.tr (eL ([] : List I_Change)), 89, 6⟩, ⟨.tr (eL ([] : List I_Tagged)), 52, 2⟩]) [none, none, none] (.inl rfl) rfl (rl := [.cell 4 34]) (.cellN rfl rfl rfl rfl .nil) rfl rfl rfl (.aggL ⟨.osn rfl, .osn rfl, .osn rfl, trivial⟩) ⟨ow_nil _, ow_nil _, ow_nil _, trivial⟩ ⟨rfl, rfl⟩
  refine PC.cond_false rfl h_4 ?_; refine PC.skip ?_; refine thA_n ?_; refine PC.seq ?_; obtain ⟨r5, h_6, hh0⟩ := bind_some hh0; refine PC.region ?_; refine PL.op rfl (Rd.loadBox rfl rfl rfl) ?_; refine PL.callM false [] (w_S_copyTable N p_t r5 h_6) rfl Tryz.call36 rfl ⟨.aggL ⟨.t _, .t _, .t _, trivial⟩, trivial⟩ rfl trivial (fun h => by cases h) ?_; refine PL.nm (.agg [.os 2 0 r5.first.length, .os 3 0 r5.changes.length, .os 4 0 r5.rows.length]) [some ⟨.mx [sL p_t.first, sL p_t.changes, sL p_t.rows], 34, 0⟩, some ⟨.mx [.t (.v (.slice none 0 0)), .t (.v (.slice none 0 0)), .t (.v (.slice none 0 0))], 34, 0⟩, some ⟨.tr (eL r5.first), 86, 4⟩, some ⟨.tr (eL r5.changes), 89, 6⟩, some ⟨.tr (eL r5.rows), 52, 2⟩] rfl rfl ?_; refine PL.ef rfl (Ef.alloc rfl rfl) ?_; refine PL.nm (.op 5 0) [some ⟨.mx [sL p_t.first, sL p_t.changes, sL p_t.rows], 34, 0⟩, some ⟨.mx [.t (.v (.slice none 0 0)), .t (.v (.slice none 0 0)), .t (.v (.slice none 0 0))], 34, 0⟩, some ⟨.tr (eL r5.first), 86, 4⟩, some ⟨.tr (eL r5.changes), 89, 6⟩, some ⟨.tr (eL r5.rows), 52, 2⟩, some ⟨.mx [.t (.v (.slice none 0 0)), .t (.v (.slice none 0 0)), .t (.v (.slice none 0 0))], 34, 0⟩] rfl rfl ?_; refine PL.store rfl rfl rfl rfl rfl rfl rfl ?_; refine PL.nO [some ⟨.mx [sL p_t.first, sL p_t.changes, sL p_t.rows], 34, 0⟩, some ⟨.mx [.t (.v (.slice none 0 0)), .t (.v (.slice none 0 0)), .t (.v (.slice none 0 0))], 34, 0⟩, some ⟨.tr (eL r5.first), 86, 4⟩, some ⟨.tr (eL r5.changes), 89, 6⟩, some ⟨.tr (eL r5.rows), 52, 2⟩, some ⟨.mx [.os 2 0 r5.first.length, .os 3 0 r5.changes.length, .os 4 0 r5.rows.length], 34, 0⟩] rfl ?_; refine PL.nil ?_; refine thA_n ?_; refine PC.seq ?_; obtain ⟨r7, h_8, hh0⟩ := bind_some hh0; refine PC.region ?_; refine PL.op rfl (Rd.loadBox rfl rfl rfl) ?_; refine PL.callM false [] (w_S_latest N p_t r7 h_8) rfl Tryz.call21 rfl ⟨.aggL ⟨.t _, .t _, .t _, trivial⟩, trivial⟩ rfl trivial (fun h => by cases h) ?_; refine PL.nm (.os 6 0 r7.length) [some ⟨.mx [sL p_t.first, sL p_t.changes, sL p_t.rows], 34, 0⟩, some ⟨.mx [.t (.v (.slice none 0 0)), .t (.v (.slice none 0 0)), .t (.v (.slice none 0 0))], 34, 0⟩, some ⟨.tr (eL r5.first), 86, 4⟩, some ⟨.tr (eL r5.changes), 89, 6⟩, some ⟨.tr (eL r5.rows), 52, 2⟩, some ⟨.mx [.os 2 0 r5.first.length, .os 3 0 r5.changes.length, .os 4 0 r5.rows.length], 34, 0⟩, some ⟨.tr (eL r7), 50, 1⟩] rfl rfl ?_; refine PL.op rfl (Rd.asnO rfl) ?_; refine PL.nil ?_; refine thA_n ?_; (iterate 2 refine PC.seq ?_); refine PC.region ?_; refine PL.op rfl (Rd.asnT rfl) ?_; refine PL.nil ?_; refine thA_n ?_; obtain ⟨o28, h_29, hh0⟩ := bind_some hh0; refine PC.cutE hs (fun x : (List I_Tagged) => [(4, .op 0 0), (5, .op 1 0)]) (fun x => [⟨.mx [.t (.v (.slice none 0 0)), .t (.v (.slice none 0 0)), .t (.v (.slice none 0 0))], 34, 0⟩, ⟨.mx [.os 2 0 r5.first.length, .os 3 0 r5.changes.length, .os 4 0 x.length], 34, 0⟩, ⟨.tr (eL r5.first), 86, 4⟩, ⟨.tr (eL r5.changes), 89, 6⟩, ⟨.tr (eL x), 52, 2⟩]) (fun x => m_S_RewriteRows_k1 N r5 x = some r) ?_ ?_
  · refine PC.block ?_; refine PC.loop hs (fun x : Nat × (Int × Int × (List I_Tagged)) => [(1, iA x.2.1), (2, .op 0 0), (4, .op 1 0), (5, .op 2 0), (6, .os 6 0 r7.length), (7, iA x.2.2.1)]) (fun x => [⟨.mx [sL p_t.first, sL p_t.changes, sL p_t.rows], 34, 0⟩, ⟨.mx [.t (.v (.slice none 0 0)), .t (.v (.slice none 0 0)), .t (.v (.slice none 0 0))], 34, 0⟩, ⟨.mx [.os 3 0 r5.first.length, .os 4 0 r5.changes.length, .os 5 0 x.2.2.2.length], 34, 0⟩, ⟨.tr (eL r5.first), 86, 4⟩, ⟨.tr (eL r5.changes), 89, 6⟩, ⟨.tr (eL x.2.2.2), 52, 2⟩, ⟨.tr (eL r7), 50, 1⟩]) (fun x => loopM (β := (List I_Tagged)) (fun s : Int × Int × (List I_Tagged) => m_S_RewriteRows_b1 N p_t r7 s.1 s.2.1 s.2.2) x.1 x.2 = some o28) (fun x => x.1) (N, (p_many, (0 : Int), r5.rows)) [some 0, some 1, some 5, some 2, some 3, some 4, some 6] ⟨rfl, rfl, ⟨⟨_, rfl, rfl, rfl, .mx ⟨.t _, .t _, .t _, trivial⟩⟩, ⟨_, rfl, rfl, rfl, .mx ⟨.t _, .t _, .t _, trivial⟩⟩, ⟨_, rfl, rfl, rfl, .mx ⟨.os rfl, .os rfl, .os rfl, trivial⟩⟩, ⟨_, rfl, rfl, rfl, .tr _⟩, ⟨_, rfl, rfl, rfl, .tr _⟩, ⟨_, rfl, rfl, rfl, .tr _⟩, ⟨_, rfl, rfl, rfl, .tr _⟩, trivial⟩, ⟨.t _, .op rfl, .op rfl, .op rfl, .os rfl, .t _, trivial⟩⟩ h_29 ?_
    rintro ⟨f30_, many9, i10, v11⟩ h_32
    obtain ⟨f30, y31, rfl, hh1, kk1⟩ := loopM_some h_32
    replace hh1 : m_S_RewriteRows_b1 N p_t r7 many9 i10 v11 = some y31 := hh1
    unfold m_S_RewriteRows_b1 at hh1; (iterate 2 refine PC.seq ?_); rcases cond_some hh1 with ⟨h_33, hh1⟩ | ⟨h_33, hh1⟩; rotate_left
    · refine PC.region ?_; refine PL.op rfl (Rd.moveT rfl) ?_; refine PL.op rfl (Rd.fieldO rfl rfl) ?_; refine PL.op rfl (Rd.loadO rfl rfl rfl) ?_; refine PL.op rfl (Rd.lenT rfl) ?_; refine PL.op rfl (Rd.lss rfl rfl) ?_; refine PL.op rfl (Rd.moveT rfl) ?_; (iterate 2 refine PL.guard_off rfl rfl h_33 ?_); refine PL.op rfl (Rd.pick_f rfl h_33) ?_; refine PL.nil ?_; refine thA_n ?_; refine PC.cond_false rfl rfl ?_; refine PC.exit ?_; (iterate 2 refine thA_e ?_); refine inA_eq rfl ?_; refine thA_n ?_; obtain rfl := some_in hh1; obtain rfl : (v11 : (List I_Tagged)) = o28 := kk1; exact ⟨v11, hh0, [some 1, some 2, some 3, some 4, some 5], ⟨rfl, rfl, ⟨⟨_, rfl, rfl, rfl, .mx ⟨.t _, .t _, .t _, trivial⟩⟩, ⟨_, rfl, rfl, rfl, .mx ⟨.os rfl, .os rfl, .os rfl, trivial⟩⟩, ⟨_, rfl, rfl, rfl, .tr _⟩, ⟨_, rfl, rfl, rfl, .tr _⟩, ⟨_, rfl, rfl, rfl, .tr _⟩, trivial⟩, ⟨.op rfl, .op rfl, trivial⟩⟩⟩
    refine PC.region ?_; refine PL.op rfl (Rd.moveT rfl) ?_; refine PL.op rfl (Rd.fieldO rfl rfl) ?_; refine PL.op rfl (Rd.loadO rfl rfl rfl) ?_; refine PL.op rfl (Rd.lenT rfl) ?_; refine PL.op rfl (Rd.lss rfl rfl) ?_; refine PL.op rfl (Rd.moveT rfl) ?_; refine PL.guard_on rfl h_33 ?_; refine PL.op rfl (Rd.moveT rfl) ?_; refine PL.guard_on rfl h_33 ?_; refine PL.op rfl (Rd.gtr rfl rfl) ?_; refine PL.op rfl (Rd.pick_t rfl h_33) ?_; refine PL.nil ?_; refine thA_n ?_; rcases cond_some hh1 with ⟨h_34, hh1⟩ | ⟨h_34, hh1⟩; rotate_left
    · refine PC.cond_false rfl h_34 ?_; refine PC.exit ?_; (iterate 2 refine thA_e ?_); refine inA_eq rfl ?_; refine thA_n ?_; obtain rfl := some_in hh1; obtain rfl : (v11 : (List I_Tagged)) = o28 := kk1; exact ⟨v11, hh0, [some 1, some 2, some 3, some 4, some 5], ⟨rfl, rfl, ⟨⟨_, rfl, rfl, rfl, .mx ⟨.t _, .t _, .t _, trivial⟩⟩, ⟨_, rfl, rfl, rfl, .mx ⟨.os rfl, .os rfl, .os rfl, trivial⟩⟩, ⟨_, rfl, rfl, rfl, .tr _⟩, ⟨_, rfl, rfl, rfl, .tr _⟩, ⟨_, rfl, rfl, rfl, .tr _⟩, trivial⟩, ⟨.op rfl, .op rfl, trivial⟩⟩⟩
    refine PC.cond_true rfl h_34 ?_; refine PC.skip ?_; refine thA_n ?_; refine PC.seq ?_; refine PC.block ?_; refine PC.seq ?_; obtain ⟨x35, h_36, hh1⟩ := bind_some hh1; refine PC.any (id := 8) 10 (.seg [0, 1, 2, 3, 4, 5, 6, 7, 8, 9] .done) [] rfl (by kernel_rfl) rfl ?_; refine PT.seg ?_; refine PR.op rfl (Rd.fieldO rfl rfl) ?_; refine PR.op rfl (Rd.loadO rfl rfl rfl) ?_; refine PR.op rfl (Rd.moveT rfl) ?_; refine PR.op rfl (Rd.ixM rfl rfl h_36) ?_; refine PR.op rfl (Rd.fieldT rfl) ?_; refine PR.op rfl (Rd.elMF (f := 0) rfl h_36 rfl rfl) ?_; refine PR.op rfl (Rd.fieldO rfl rfl) ?_; refine PR.op rfl (Rd.loadO rfl rfl rfl) ?_; refine PR.op rfl (Rd.lenT rfl) ?_; refine PR.op rfl (Rd.lss rfl rfl) ?_; refine PR.nil ?_; refine PT.done ?_; refine PL.nil ?_; refine thA_n ?_; rcases cond_some hh1 with ⟨h_37, hh1⟩ | ⟨h_37, hh1⟩; rotate_left
    · refine PC.cond_false rfl h_37 ?_; refine PC.skip ?_; refine inA_n ?_; refine thA_n ?_; obtain ⟨n46, h_47, hh1⟩ := bind_some hh1; refine PC.region ?_; refine PL.op rfl (Rd.moveT rfl) ?_; refine PL.op rfl (Rd.addM rfl rfl h_47) ?_; refine PL.op rfl (Rd.asnT rfl) ?_; refine PL.nil ?_; obtain rfl := some_in hh1; refine thA_n ?_; exact ⟨(f30, (many9, n46, v11)), Nat.lt_succ_self _, kk1, [some 0, some 1, some 2, some 3, some 4, some 5, some 6], ⟨rfl, rfl, ⟨⟨_, rfl, rfl, rfl, .mx ⟨.t _, .t _, .t _, trivial⟩⟩, ⟨_, rfl, rfl, rfl, .mx ⟨.t _, .t _, .t _, trivial⟩⟩, ⟨_, rfl, rfl, rfl, .mx ⟨.os rfl, .os rfl, .os rfl, trivial⟩⟩, ⟨_, rfl, rfl, rfl, .tr _⟩, ⟨_, rfl, rfl, rfl, .tr _⟩, ⟨_, rfl, rfl, rfl, .tr _⟩, ⟨_, rfl, rfl, rfl, .tr _⟩, trivial⟩, ⟨.t _, .op rfl, .op rfl, .op rfl, .os rfl, .t _, trivial⟩⟩⟩
    refine PC.cond_true rfl h_37 ?_; refine PC.seq ?_; obtain ⟨x38, h_39, hh1⟩ := bind_some hh1; obtain ⟨x40, h_41, hh1⟩ := bind_some hh1; refine PC.any (id := 9) 12 (.seg [0, 1, 2, 3, 4, 5, 6, 7, 8, 9, 10, 11] .done) [] rfl (by kernel_rfl) rfl ?_; refine PT.seg ?_; refine PR.op rfl (Rd.fieldO rfl rfl) ?_; refine PR.op rfl (Rd.loadO rfl rfl rfl) ?_; refine PR.op rfl (Rd.moveT rfl) ?_; refine PR.op rfl (Rd.fieldO rfl rfl) ?_; refine PR.op rfl (Rd.loadO rfl rfl rfl) ?_; refine PR.op rfl (Rd.lenT rfl) ?_; refine PR.op rfl (Rd.moveO rfl) ?_; refine PR.op rfl (Rd.moveT rfl) ?_; refine PR.op rfl (Rd.ixOM rfl rfl rfl (ixI_lt h_39)) ?_; refine PR.op rfl (Rd.owM1 rfl rfl h_39 rfl rfl) ?_; refine PR.op rfl (Rd.build rfl rfl rfl rfl) ?_; refine PR.op rfl (Rd.ixOM rfl rfl rfl (ixI_lt h_41)) ?_; refine PR.nil ?_; refine PT.done ?_; refine PL.stRM (I_Tagged.mk (p_t.changes.length : Int) x38) rfl rfl rfl rfl rfl h_41 rfl ?_; refine PL.nO [some ⟨.mx [sL p_t.first, sL p_t.changes, sL p_t.rows], 34, 0⟩, some ⟨.mx [.t (.v (.slice none 0 0)), .t (.v (.slice none 0 0)), .t (.v (.slice none 0 0))], 34, 0⟩, some ⟨.mx [.os 3 0 r5.first.length, .os 4 0 r5.changes.length, .os 5 0 v11.length], 34, 0⟩, some ⟨.tr (eL r5.first), 86, 4⟩, some ⟨.tr (eL r5.changes), 89, 6⟩, some ⟨.tr (eL (v11.set i10.toNat (I_Tagged.mk (p_t.changes.length : Int) x38))), 52, 2⟩, some ⟨.tr (eL r7), 50, 1⟩] rfl ?_; refine PL.nil ?_; refine thA_n ?_; obtain ⟨n42, h_43, hh1⟩ := bind_some hh1; refine PC.region ?_; refine PL.op rfl (Rd.moveT rfl) ?_; refine PL.op rfl (Rd.subM rfl rfl h_43) ?_; refine PL.op rfl (Rd.asnT rfl) ?_; refine PL.nil ?_; refine inA_n ?_; refine thA_n ?_; obtain ⟨n44, h_45, hh1⟩ := bind_some hh1; refine PC.region ?_; refine PL.op rfl (Rd.moveT rfl) ?_; refine PL.op rfl (Rd.addM rfl rfl h_45) ?_; refine PL.op rfl (Rd.asnT rfl) ?_; refine PL.nil ?_; obtain rfl := some_in hh1; refine thA_n ?_; exact ⟨(f30, (n42, n44, (v11.set i10.toNat (I_Tagged.mk (p_t.changes.length : Int) x38)))), Nat.lt_succ_self _, kk1, [some 0, some 1, some 2, some 3, some 4, some 5, some 6], ⟨rfl, rfl, ⟨⟨_, rfl, rfl, rfl, .mx ⟨.t _, .t _, .t _, trivial⟩⟩, ⟨_, rfl, rfl, rfl, .mx ⟨.t _, .t _, .t _, trivial⟩⟩, ⟨_, rfl, rfl, rfl, .mx ⟨.os rfl, .os rfl, .osE rfl (by simp only [List.length_set]), trivial⟩⟩, ⟨_, rfl, rfl, rfl, .tr _⟩, ⟨_, rfl, rfl, rfl, .tr _⟩, ⟨_, rfl, rfl, rfl, .tr _⟩, ⟨_, rfl, rfl, rfl, .tr _⟩, trivial⟩, ⟨.t _, .op rfl, .op rfl, .op rfl, .os rfl, .t _, trivial⟩⟩⟩
  clear hh0
  rintro v27 hh0
  replace hh0 : m_S_RewriteRows_k1 N r5 v27 = some r := hh0
  unfold m_S_RewriteRows_k1 at hh0; refine thA_n ?_; refine PC.seq ?_; refine PC.region ?_; refine PL.op rfl (Rd.loadBox rfl rfl rfl) ?_; refine PL.store rfl rfl rfl rfl rfl rfl rfl ?_; refine PL.nO [some ⟨.mx [.os 2 0 r5.first.length, .os 3 0 r5.changes.length, .os 4 0 v27.length], 34, 0⟩, some ⟨.mx [.os 2 0 r5.first.length, .os 3 0 r5.changes.length, .os 4 0 v27.length], 34, 0⟩, some ⟨.tr (eL r5.first), 86, 4⟩, some ⟨.tr (eL r5.changes), 89, 6⟩, some ⟨.tr (eL v27), 52, 2⟩] rfl ?_; refine PL.nil ?_; refine thA_n ?_; refine PC.ret ?_; obtain rfl := some_in hh0; exact FinA.mk (r := .agg [.os 0 0 r5.first.length, .os 1 0 r5.changes.length, .os 2 0 v27.length]) (bl := [⟨.tr (eL r5.first), 86, 4⟩, ⟨.tr (eL r5.changes), 89, 6⟩, ⟨.tr (eL v27), 52, 2⟩]) [some 2, some 3, some 4] (.inl rfl) rfl (rl := [.cell 4 34]) (.cellN rfl rfl rfl rfl .nil) rfl rfl rfl (.aggL ⟨.os rfl, .os rfl, .os rfl, trivial⟩) ⟨⟨_, rfl, rfl, rfl, .tr _⟩, ⟨_, rfl, rfl, rfl, .tr _⟩, ⟨_, rfl, rfl, rfl, .tr _⟩, trivial⟩ ⟨rfl, rfl⟩
end V
end Go.Proofs.YtikobdnhflcnmaaGreatDoor
namespace Go.Proofs.YtikobdnhflcnmaaGreatDoor
namespace V
set_option linter.unusedVariables false
set_option linter.unusedSimpArgs false
set_option maxHeartbeats 1000000
/-- Format i of a chain. -/
def fA (f : List I_Column) (l : List I_Change) (i : Nat) : List I_Column := (l.take i).foldl chF f
theorem fA_succ (f : List I_Column) {l : List I_Change} {i : Nat} (h : i < l.length) : fA f l (i + 1) = chF (fA f l i) l[i] := by
  unfold fA; rw [take_succ1 h, List.foldl_append]; rfl
/-- All changes are possible. -/
def gC (f : List I_Column) (l : List I_Change) : Prop := ∀ i (h : i < l.length), poss (fA f l i) l[i]
noncomputable instance (f : List I_Column) (l : List I_Change) : Decidable (gC f l) := Classical.propDecidable _
/-- A chain of formats. -/
def cO (f : List I_Column) (l : List I_Change) : Prop := vF f ∧ l.length ≤ 8 ∧ gC f l
noncomputable instance (f : List I_Column) (l : List I_Change) : Decidable (cO f l) := Classical.propDecidable _
/-- The formats of a chain. -/
def chs (f : List I_Column) (l : List I_Change) : List (List I_Column) := (List.range (l.length + 1)).map (fA f l)
theorem chs_len (f : List I_Column) (l : List I_Change) : (chs f l).length = l.length + 1 := by unfold chs; simp
theorem chs_get {f : List I_Column} {l : List I_Change} {i : Nat} (h : i < (chs f l).length) : (chs f l)[i] = fA f l i := by show ((List.range (l.length + 1)).map (fA f l))[i]'(by simpa [chs] using h) = _; simp
theorem chs_ix {f : List I_Column} {l : List I_Change} {i : Int} {n : Nat} (h : i = n) (hn : n ≤ l.length) : ixI (chs f l) i = some (fA f l n) := by
  rw [ixI_eq h (by rw [chs_len]; omega), chs_get]
/-- Texts of changes are not too long. -/
def bCs (l : List I_Change) : Prop := l.length ≤ 5000000 ∧ ∀ c ∈ l, c.column.default.text.size ≤ 5000000
/-- A row that is valid. -/
def vRow (r : List I_Value) : Prop := r.length ≤ 5 ∧ ∀ i (h : i < r.length), vV r[i]
noncomputable instance (r : List I_Value) : Decidable (vRow r) := Classical.propDecidable _
/-- A row is not too large. -/
def bR (r : List I_Value) : Prop := r.length ≤ 5000000 ∧ ∀ v ∈ r, v.text.size ≤ 5000000
theorem fit_bR {f : List I_Column} {r : List I_Value} (h : fitP f r) (hl : f.length ≤ 5000000) : bR r := ⟨by have := h.1; omega, fun v hv => by
  obtain ⟨i, hi, rfl⟩ := List.mem_iff_getElem.1 hv
  have := vV_size (h.2 i hi (by have := h.1; omega)).1; omega⟩
theorem len_chF {f : List I_Column} {c : I_Change} (h : f.length ≤ 5000000) (hp : poss f c) : (chF f c).length ≤ 5000000 := by
  unfold chF
  split
  · rcases hp with e | e | ⟨e1, e2, e3, e4⟩
    · rw [List.length_insertIdx]; split <;> omega
    · omega
    · omega
  · split
    · rw [List.length_eraseIdx]; split <;> omega
    · rw [List.length_modify]; exact h
theorem vF_fA {f : List I_Column} {l : List I_Change} (h : vF f) : ∀ (i : Nat), i ≤ l.length → (∀ k (h : k < l.length), k < i → poss (fA f l k) l[k]) → vF (fA f l i)
  | 0, _, _ => h
  | i + 1, hi, hg => by
    rw [fA_succ f (by omega)]
    exact vF_chF (vF_fA h i (by omega) fun k hk hki => hg k hk (by omega)) (hg i (by omega) (by omega))
theorem bN_fA {f : List I_Column} {l : List I_Change} (h : bN f) (hl : f.length ≤ 5000000) : ∀ (i : Nat), i ≤ l.length → (∀ k (h : k < l.length), k < i → poss (fA f l k) l[k]) → bN (fA f l i) ∧ (fA f l i).length ≤ 5000000
  | 0, _, _ => ⟨h, hl⟩
  | i + 1, hi, hg => by
    rw [fA_succ f (by omega)]
    have h1 := bN_fA h hl i (by omega) fun k hk hki => hg k hk (by omega)
    have h2 := hg i (by omega) (by omega)
    exact ⟨bN_chF h1.1 h2, len_chF h1.2 h2⟩
theorem cO_fA {f : List I_Column} {l : List I_Change} (h : cO f l) {i : Nat} (hi : i ≤ l.length) : vF (fA f l i) := vF_fA h.1 i hi fun k hk _ => h.2.2 k hk
theorem ext_fA {f : List I_Column} {l : List I_Change} {i : Nat} (h : i < l.length) : (List.range (i + 1 + 1)).map (fA f l) = (List.range (i + 1)).map (fA f l) ++ [chF (fA f l i) l[i]] := by
  rw [List.range_succ (n := i + 1), List.map_append, ← fA_succ f h]; rfl
theorem rng_ix {f : List I_Column} {l : List I_Change} {i m : Nat} (h : i ≤ m) : ixI ((List.range (m + 1)).map (fA f l)) (i : Int) = some (fA f l i) := by
  rw [ixI_nat (by simp; omega)]; simp
/-- A row moved from format a to format i. -/
def mA (r : List I_Value) (l : List I_Change) (a i : Nat) : List I_Value := ((l.take i).drop a).foldl mv r
theorem mA_self (r : List I_Value) (l : List I_Change) (a : Nat) : mA r l a a = r := by
  unfold mA; rw [List.drop_eq_nil_of_le (by rw [List.length_take]; omega)]; rfl
theorem mA_succ (r : List I_Value) {l : List I_Change} {a i : Nat} (ha : a ≤ i) (h : i < l.length) : mA r l a (i + 1) = mv (mA r l a i) l[i] := by
  unfold mA; rw [take_succ1 h, List.drop_append_of_le_length (by rw [List.length_take]; omega), List.foldl_append]; rfl
theorem fit_mA {f : List I_Column} {l : List I_Change} {r : List I_Value} {a : Nat} (hg : gC f l) (h : fitP (fA f l a) r) : ∀ (i : Nat), a ≤ i → i ≤ l.length → fitP (fA f l i) (mA r l a i)
  | i, ha, hi => by
    rcases Nat.lt_or_eq_of_le ha with hlt | rfl
    · obtain ⟨i, rfl⟩ : ∃ j, i = j + 1 := ⟨i - 1, by omega⟩
      rw [fA_succ f (by omega), mA_succ r (by omega) (by omega)]
      exact fit_mv (fit_mA hg h i (by omega) (by omega)) (hg i (by omega))
    · rw [mA_self]; exact h
section
variable {N : Nat} (hN : 100000000 ≤ N)
include hN
omit hN in
theorem copyS {g : List I_Column} (hg : g.length ≤ 5000000) : m_S_copyColumns N g = some g := by
  unfold m_S_copyColumns
  rw [appM0 (by omega)]; rfl
theorem formatsS {f : List I_Column} {l : List I_Change} (hl : f.length ≤ 5000000) (hb : bN f) (hc : bCs l) : m_S_formats N f l = some (if gC f l then (chs f l, true) else ([], false)) := by
  have hcl := hc.1
  refine ok.val ?_
  unfold m_S_formats
  refine ok.eq (copyS hl) (ok.call (P := fun o => (o = .inl (chs f l) ∧ gC f l) ∨ (o = .inr ([], false) ∧ ¬ gC f l)) (ok.each l.length (fun i s => s = ((i : Int), (List.range (i + 1)).map (fA f l)) ∧ ∀ k (h : k < l.length), k < i → poss (fA f l k) l[k]) _ ?_ ?_ N 0 _ (Nat.zero_le _) ⟨rfl, fun k h hk => by omega⟩ (by omega)) ?_)
  · rintro i s hi ⟨rfl, hg⟩
    have hf := bN_fA hb hl i (by omega) hg
    show ok (m_S_formats_b1 N l (i : Int) _) _
    unfold m_S_formats_b1
    refine ok.ift (by omega) (ok.eq (rng_ix (Nat.le_refl _)) (ok.eq (ixI_nat hi) (ok.eq (chFS hN hf.2 hf.1 (hc.2 _ (List.getElem_mem _))) ?_)))
    by_cases hp : poss (fA f l i) l[i]
    · rw [if_pos hp]
      refine ok.bt rfl (ok.app (by simp; omega) (ok.chk (by omega) (ok.some ⟨?_, fun k hk hki => ?_⟩)))
      · rw [ext_fA hi]; simp
      · rcases Nat.lt_succ_iff_lt_or_eq.1 hki with h | rfl
        · exact hg k hk h
        · exact hp
    · rw [if_neg hp]
      exact ok.bf rfl (ok.some (.inr ⟨rfl, fun h => hp (h i hi)⟩))
  · rintro s ⟨rfl, hg⟩
    show ok (m_S_formats_b1 N l _ _) _
    unfold m_S_formats_b1
    exact ok.iff (by omega) (ok.some (.inl ⟨rfl, fun k hk => hg k hk hk⟩))
  · rintro o (⟨rfl, h⟩ | ⟨rfl, h⟩)
    · rw [if_pos h]; exact ok.some rfl
    · rw [if_neg h]; exact ok.some rfl
theorem chainI {f : List I_Column} {l : List I_Change} (hb : bS f) (hc : bCs l) : m_I_ChainOf N f l = some (if cO f l then (chs f l, true) else ([], false)) := by
  have hcl := hc.1
  have hl := hb.1
  refine ok.val ?_
  unfold m_I_ChainOf
  refine ok.eq (vFI hN hb) (ok.ite (fun hv => ok.ite (fun h8 => ok.some ?_) fun h8 => ?_) fun hv => ok.some ?_)
  · rw [if_neg fun e : cO f l => by have := e.2.1; omega]
  · refine ok.eq (show m_slices_Clone_I_Column N f = some f from appM0 (by omega)) (ok.call (P := fun o => (o = .inl (chs f l) ∧ gC f l) ∨ (o = .inr ([], false) ∧ ¬ gC f l)) (ok.each l.length (fun i s => s = ((i : Int), (List.range (i + 1)).map (fA f l)) ∧ ∀ k (h : k < l.length), k < i → poss (fA f l k) l[k]) _ ?_ ?_ N 0 _ (Nat.zero_le _) ⟨rfl, fun k h hk => by omega⟩ (by omega)) ?_)
    · rintro i s hi ⟨rfl, hg⟩
      have hf := vF_fA hv i (by omega) hg
      show ok (m_I_ChainOf_b1 N l (i : Int) _) _
      unfold m_I_ChainOf_b1
      refine ok.ift (by omega) (ok.eq (ixI_nat hi) (ok.eq (rng_ix (Nat.le_refl _)) (ok.eq (chFI hN (vF_bS hf) (hc.2 _ (List.getElem_mem _))) ?_)))
      by_cases hp : poss (fA f l i) l[i]
      · rw [if_pos ⟨hf, hp⟩]
        refine ok.bt rfl (ok.app (by simp; omega) (ok.chk (by omega) (ok.some ⟨?_, fun k hk hki => ?_⟩)))
        · rw [ext_fA hi]; simp
        · rcases Nat.lt_succ_iff_lt_or_eq.1 hki with h | rfl
          · exact hg k hk h
          · exact hp
      · rw [if_neg fun e => hp e.2]
        exact ok.bf rfl (ok.some (.inr ⟨rfl, fun h => hp (h i hi)⟩))
    · rintro s ⟨rfl, hg⟩
      show ok (m_I_ChainOf_b1 N l _ _) _
      unfold m_I_ChainOf_b1
      exact ok.iff (by omega) (ok.some (.inl ⟨rfl, fun k hk => hg k hk hk⟩))
    · rintro o (⟨rfl, h⟩ | ⟨rfl, h⟩)
      · rw [if_pos (show cO f l from ⟨hv, by omega, h⟩)]; exact ok.some rfl
      · rw [if_neg fun e : cO f l => h e.2.2]; exact ok.some rfl
  · rw [if_neg fun e : cO f l => hv e.1]
theorem vchainS {f : List I_Column} {l : List I_Change} (hb : bS f) (hc : bCs l) : m_S_validChain N f l = some (decide (cO f l)) := by
  refine bool_eq ?_
  unfold m_S_validChain
  refine ok.eq (vFS hN hb) (ok.ite (fun hv => ok.ite (fun h8 => ok.some ?_) fun h8 => ok.eq (formatsS hN hb.1 (vF_bN hv) hc) (ok.some ?_)) fun hv => ok.some ?_)
  · exact ⟨fun e => (by cases e), fun e => by have := e.2.1; omega⟩
  · by_cases hg : gC f l
    · rw [if_pos hg]; exact ⟨fun _ => ⟨hv, by omega, hg⟩, fun _ => rfl⟩
    · rw [if_neg hg]; exact ⟨fun e => (by cases e), fun e => (hg e.2.2).elim⟩
  · exact ⟨fun e => (by cases e), fun e => (hv e.1).elim⟩
theorem fitI {f : List I_Column} {r : List I_Value} (hb : bS f) (hr : bR r) : m_I_RowFits N f r = some (decide (vF f ∧ fitP f r)) := by
  have hrl := hr.1
  refine bool_eq ?_
  unfold m_I_RowFits fitP
  refine ok.eq (vFI hN hb) (ok.ite (fun hv => ok.ite (fun hl => ?_) fun hl => ok.some ⟨fun e => (by cases e), fun e => by have := e.2.1; omega⟩) fun hv => ok.some ⟨fun e => (by cases e), fun e => (hv e.1).elim⟩)
  refine ok.call (all_ok (n := r.length) 0 (fun i => ∀ (h : i < r.length) (h' : i < f.length), vV r[i] ∧ (r[i].kind = 0 ∨ r[i].kind = f[i].kind)) (by omega) (fun i hi _ => ?_) ?_) ?_
  · rw [Int.add_zero]
    have hi' : i < f.length := by omega
    show ok (m_I_RowFits_b1 N f r (i : Int)) _
    unfold m_I_RowFits_b1
    refine ok.ift (by omega) (ok.eq (ixI_nat hi) (ok.eq (vVI hN (hr.2 _ (List.getElem_mem _))) (ok.ite (fun hc => ok.ite (fun k0 => ok.chk (by omega) (ok.some (.inl ⟨rfl, fun _ _ => ⟨hc, .inl k0⟩⟩))) fun k0 => ok.eq (ixI_nat hi') (ok.ite (fun k1 => ok.chk (by omega) (ok.some (.inl ⟨rfl, fun _ _ => ⟨hc, .inr k1⟩⟩))) fun k1 => ok.some (.inr ⟨rfl, fun e => ?_⟩))) fun hc => ok.some (.inr ⟨rfl, fun e => hc (e hi hi').1⟩))))
    rcases (e hi hi').2 with e | e
    · exact k0 e
    · exact k1 e
  · rw [Int.add_zero]
    show m_I_RowFits_b1 N f r _ = _
    unfold m_I_RowFits_b1
    rw [decide_eq_false (by omega)]; rfl
  · rintro o (⟨rfl, hh⟩ | ⟨rfl, hh⟩)
    · exact ok.some ⟨fun _ => ⟨hv, by omega, fun i hi => hh i hi hi⟩, fun _ => rfl⟩
    · exact ok.some ⟨fun e => (by cases e), fun e => (hh fun k hk h => e.2.2 k h).elim⟩
theorem vrowS {r : List I_Value} (hr : bR r) : m_S_validRow N r = some (decide (vRow r)) := by
  have hrl := hr.1
  refine bool_eq ?_
  unfold m_S_validRow vRow
  refine ok.call (all_ok (n := r.length) 0 (fun i => ∀ (h : i < r.length), vV r[i]) (by omega) (fun i hi _ => ?_) ?_) ?_
  · rw [Int.add_zero]
    show ok (m_S_validRow_b1 N r (i : Int)) _
    unfold m_S_validRow_b1
    refine ok.ift (by omega) (ok.eq (ixI_nat hi) (ok.eq (vVS hN (hr.2 _ (List.getElem_mem _))) (ok.ite (fun hc => ok.chk (by omega) (ok.some (.inl ⟨rfl, fun _ => hc⟩))) fun hc => ok.some (.inr ⟨rfl, fun e => hc (e hi)⟩))))
  · rw [Int.add_zero]
    show m_S_validRow_b1 N r _ = _
    unfold m_S_validRow_b1
    rw [decide_eq_false (by omega)]; rfl
  · rintro o (⟨rfl, hh⟩ | ⟨rfl, hh⟩)
    · refine ok.some ?_
      rw [decide_eq_true_eq]
      exact ⟨fun e => ⟨by omega, fun i hi => hh i hi hi⟩, fun e => by have := e.1; omega⟩
    · exact ok.some ⟨fun e => (by cases e), fun e => (hh fun k hk h => e.2 k h).elim⟩
theorem fitS {f : List I_Column} {r : List I_Value} (hr : bR r) (hf : f.length ≤ 5) : m_S_fits N f r = some (decide (fitP f r)) := by
  have hrl := hr.1
  refine bool_eq ?_
  unfold m_S_fits
  refine ok.ite (fun hl => ?_) fun hl => ok.some ⟨fun e => (by cases e), fun e => by have := e.1; omega⟩
  refine ok.eq (vrowS hN hr) (ok.ite (fun hv => ?_) fun hv => ok.some ⟨fun e => (by cases e), fun e => (hv ⟨by omega, fun i hi => (e.2 i hi (by omega)).1⟩).elim⟩)
  unfold fitP
  refine ok.call (all_ok (n := r.length) 0 (fun i => ∀ (h : i < r.length) (h' : i < f.length), vV r[i] ∧ (r[i].kind = 0 ∨ r[i].kind = f[i].kind)) (by omega) (fun i hi _ => ?_) ?_) ?_
  · rw [Int.add_zero]
    have hi' : i < f.length := by omega
    have hc := hv.2 i hi
    show ok (m_S_fits_b1 N f r (i : Int)) _
    unfold m_S_fits_b1
    refine ok.ift (by omega) (ok.eq (ixI_nat hi) (ok.ite (fun k0 => ok.chk (by omega) (ok.some (.inl ⟨rfl, fun _ _ => ⟨hc, .inl k0⟩⟩))) fun k0 => ok.eq (ixI_nat hi) (ok.eq (ixI_nat hi') (ok.ite (fun k1 => ok.chk (by omega) (ok.some (.inl ⟨rfl, fun _ _ => ⟨hc, .inr k1⟩⟩))) fun k1 => ok.some (.inr ⟨rfl, fun e => ?_⟩)))))
    rcases (e hi hi').2 with e | e
    · exact k0 e
    · exact k1 e
  · rw [Int.add_zero]
    show m_S_fits_b1 N f r _ = _
    unfold m_S_fits_b1
    rw [decide_eq_false (by omega)]; rfl
  · rintro o (⟨rfl, hh⟩ | ⟨rfl, hh⟩)
    · exact ok.some ⟨fun _ => ⟨by omega, fun i hi => hh i hi hi⟩, fun _ => rfl⟩
    · exact ok.some ⟨fun e => (by cases e), fun e => (hh fun k hk h => e.2 k h).elim⟩
theorem chrowI {f : List I_Column} {r : List I_Value} {c : I_Change} (hv : vF f) (hf : fitP f r) (hp : poss f c) (hc : c.column.default.text.size ≤ 5000000) : m_I_ChangeRow N f r c = some (mv r c, true) := by
  have hl := hv.1
  have hrl := hf.1
  refine ok.val ?_
  unfold m_I_ChangeRow
  refine ok.eq (fitI hN (vF_bS hv) (fit_bR hf (by omega))) (ok.ift ⟨hv, hf⟩ (ok.eq (possI hN hc) (ok.ift hp (ok.eq (show m_slices_Clone_I_Value N r = some r from appM0 (by omega)) ?_))))
  unfold mv
  rcases hp with ⟨k, h1, h2, h3, h4⟩ | ⟨k, h1, h2, h3⟩ | ⟨k, h1, h2, h3⟩
  · refine ok.ift k (ok.eq (insM_eq ⟨h1, by omega⟩ (by omega)) (ok.some ?_))
    rw [if_pos k]
  · refine ok.iff (by omega) (ok.ift k (ok.chk (by omega) (ok.eq (delM_eq ⟨h1, by omega⟩) (ok.some ?_))))
    rw [if_neg (by omega), if_pos k]
  · have h2' : c.at_.toNat < r.length := by omega
    refine ok.iff (by omega) (ok.iff (by omega) (ok.eq (ixI_eq (n := c.at_.toNat) (by omega) h2') (ok.eq (widI hN (hf.2 _ h2' h2).1) (ok.some ?_))))
    rw [if_neg (by omega), if_neg (by omega), mod_eq h2']
theorem moveS {f : List I_Column} {r : List I_Value} {c : I_Change} (hv : vF f) (hf : fitP f r) (hp : poss f c) : m_S_move N r c = some (mv r c) := by
  have hl := hv.1
  have hrl := hf.1
  have hat := poss_at hp
  refine ok.val ?_
  unfold m_S_move
  refine ok.eq (subM_eq (by omega)) (ok.eq (appM0 (by simp; omega)) ?_)
  unfold mv
  rcases hp with ⟨k, h1, h2, h3, h4⟩ | ⟨k, h1, h2, h3⟩ | ⟨k, h1, h2, h3⟩
  · refine ok.ift k (ok.app (by simp; omega) (ok.eq (subM_eq (by omega)) (ok.app (by simp; omega) (ok.some ?_))))
    rw [if_pos k, ← ins_eq (by omega)]
    simp only [Int.toNat_zero, List.drop_zero, Nat.sub_zero, List.append_assoc, List.singleton_append]
    congr 2
    exact List.take_of_length_le (by simp)
  · refine ok.iff (by omega) (ok.iff (by omega) (ok.chk (by omega) (ok.eq (subM_eq (by omega)) (ok.app (by simp; omega) (ok.some ?_)))))
    rw [if_neg (by omega), if_pos k, List.eraseIdx_eq_take_drop_succ]
    have e : (c.at_ + 1).toNat = c.at_.toNat + 1 := by omega
    simp only [Int.toNat_zero, List.drop_zero, Nat.sub_zero, e]
    congr 1
    exact List.take_of_length_le (by simp)
  · have h2' : c.at_.toNat < r.length := by omega
    have hn := vV_num (hf.2 _ h2' h2).1
    refine ok.iff (by omega) (ok.ift k (ok.eq (ixI_eq (n := c.at_.toNat) (by omega) h2') (ok.eq (widS hN (by omega)) (ok.app (by simp; omega) (ok.chk (by omega) (ok.eq (subM_eq (by omega)) (ok.app (by simp; omega) (ok.some ?_))))))))
    rw [if_neg (by omega), if_neg (by omega), List.modify_eq_take_cons_drop h2']
    have e : (c.at_ + 1).toNat = c.at_.toNat + 1 := by omega
    simp only [Int.toNat_zero, List.drop_zero, Nat.sub_zero, e, List.append_assoc, List.singleton_append]
    congr 2
    exact List.take_of_length_le (by simp)
theorem readI {f : List I_Column} {l : List I_Change} {r : List I_Value} {a : Int} {n : Nat} (ho : cO f l) (hc : bCs l) (ha : a = n) (hn : n ≤ l.length) (hf : fitP (fA f l n) r) : m_I_ReadRow N f l a (l.length : Int) r = some (mA r l n l.length, true) := by
  subst ha
  have hcl := hc.1
  have hvn := cO_fA ho hn
  have hrl := hf.1
  have hvl := hvn.1
  refine ok.val ?_
  unfold m_I_ReadRow
  refine ok.eq (chainI hN (vF_bS ho.1) hc) ?_
  rw [if_pos ho]
  have hlen := chs_len f l
  refine ok.bt rfl (ok.iff (by omega) (ok.iff (by omega) (ok.iff (by dsimp only; omega) (ok.eq (chs_ix rfl hn) (ok.eq (fitI hN (vF_bS hvn) (fit_bR hf (by omega))) (ok.ift ⟨hvn, hf⟩ (ok.eq (show m_slices_Clone_I_Value N r = some r from appM0 (by omega)) ?_)))))))
  refine ok.call (P := fun o => o = .inl (mA r l n l.length)) (ok.each (l.length - n) (fun i s => s = (((n + i : Nat) : Int), mA r l n (n + i))) _ ?_ ?_ N 0 _ (Nat.zero_le _) (by rw [Nat.add_zero, mA_self]) (by omega)) ?_
  · rintro i s hi rfl
    show ok (m_I_ReadRow_b1 N l _ _ _ _) _
    unfold m_I_ReadRow_b1
    refine ok.ift (by omega) (ok.eq (chs_ix rfl (by omega)) (ok.eq (ixI_nat (by omega)) (ok.eq (chrowI hN (cO_fA ho (by omega)) (fit_mA ho.2.2 hf _ (by omega) (by omega)) (ho.2.2 (n + i) (by omega)) (hc.2 _ (List.getElem_mem _))) (ok.bt rfl (ok.chk (by omega) (ok.some ?_))))))
    rw [show n + (i + 1) = n + i + 1 from rfl, mA_succ r (by omega) (by omega)]; simp
  · rintro s rfl
    show ok (m_I_ReadRow_b1 N l _ _ _ _) _
    unfold m_I_ReadRow_b1
    refine ok.iff (by omega) (ok.some ?_)
    rw [show n + (l.length - n) = l.length by omega]
  · rintro o rfl
    exact ok.some rfl
theorem advS {f : List I_Column} {l : List I_Change} {r : List I_Value} {n : Nat} (ho : cO f l) (hn : n ≤ l.length) (hf : fitP (fA f l n) r) : m_S_advance N r (l.drop n) = some (mA r l n l.length) := by
  have h8 := ho.2.1
  have hvn := cO_fA ho hn
  have hrl := hf.1
  have hvl := hvn.1
  refine ok.val ?_
  unfold m_S_advance
  refine ok.eq (appM0 (by omega)) (ok.call (P := fun o => o = mA r l n l.length) (ok.each (l.length - n) (fun i s => s = ((i : Int), mA r l n (n + i))) _ ?_ ?_ N 0 _ (Nat.zero_le _) (by rw [Nat.add_zero, mA_self]; rfl) (by omega)) ?_)
  · rintro i s hi rfl
    show ok (m_S_advance_b1 N _ _ _) _
    unfold m_S_advance_b1
    have hd : i < (l.drop n).length := by simp; omega
    refine ok.ift (by simp; omega) (ok.eq (ixI_nat hd) ?_)
    have e : (l.drop n)[i] = l[n + i] := List.getElem_drop
    rw [e]
    refine ok.eq (moveS hN (cO_fA ho (by omega)) (fit_mA ho.2.2 hf _ (by omega) (by omega)) (ho.2.2 (n + i) (by omega))) (ok.chk (by omega) (ok.some ?_))
    rw [show n + (i + 1) = n + i + 1 from rfl, mA_succ r (by omega) (by omega)]; simp
  · rintro s rfl
    show ok (m_S_advance_b1 N _ _ _) _
    unfold m_S_advance_b1
    refine ok.iff (by simp) (ok.some ?_)
    rw [show n + (l.length - n) = l.length by omega]
  · rintro o rfl
    exact ok.some rfl
end
end V
end Go.Proofs.YtikobdnhflcnmaaGreatDoor
namespace Go.Proofs.YtikobdnhflcnmaaGreatDoor
namespace V
set_option linter.unusedVariables false
set_option linter.unusedSimpArgs false
set_option maxHeartbeats 1000000
/-- A row of a table that is valid. -/
def rV (t : I_Table) (r : I_Tagged) : Prop := 0 ≤ r.tag ∧ r.tag ≤ t.changes.length ∧ fitP (fA t.first t.changes r.tag.toNat) r.row
noncomputable instance (t : I_Table) (r : I_Tagged) : Decidable (rV t r) := Classical.propDecidable _
/-- A table that is valid. -/
def tV (t : I_Table) : Prop := cO t.first t.changes ∧ t.rows.length ≤ 10 ∧ ∀ i (h : i < t.rows.length), rV t t.rows[i]
noncomputable instance (t : I_Table) : Decidable (tV t) := Classical.propDecidable _
/-- A table is not too large. -/
structure bT (t : I_Table) : Prop where
  f : bS t.first
  c : bCs t.changes
  rl : t.rows.length ≤ 5000000
  r : ∀ i (h : i < t.rows.length), bR t.rows[i].row
/-- The last format. -/
def fL (t : I_Table) : List I_Column := fA t.first t.changes t.changes.length
theorem fL_v {t : I_Table} (h : tV t) : vF (fL t) := cO_fA h.1 (Nat.le_refl _)
theorem rV_bR {t : I_Table} {r : I_Tagged} (ho : cO t.first t.changes) (h : rV t r) : bR r.row := by
  have := (cO_fA ho (i := r.tag.toNat) (by have := h.2.1; omega)).1
  exact fit_bR h.2.2 (by omega)
theorem tV_bT {t : I_Table} (h : tV t) (hc : bCs t.changes) : bT t := ⟨vF_bS h.1.1, hc, by have := h.2.1; omega, fun i hi => rV_bR h.1 (h.2.2 i hi)⟩
/-- A row in the last format. -/
def adv (t : I_Table) (r : I_Tagged) : List I_Value := mA r.row t.changes r.tag.toNat t.changes.length
theorem adv_fit {t : I_Table} {r : I_Tagged} (h : tV t) (hr : rV t r) : fitP (fL t) (adv t r) := fit_mA h.1.2.2 hr.2.2 _ (by have := hr.2.1; omega) (Nat.le_refl _)
/-- A row is not in the last format. -/
def oldB (t : I_Table) (r : I_Tagged) : Bool := decide (r.tag ≠ t.changes.length)
/-- A row rewritten. -/
def toL (t : I_Table) (r : I_Tagged) : I_Tagged := ⟨t.changes.length, adv t r⟩
theorem toL_v {t : I_Table} {r : I_Tagged} (h : tV t) (hr : rV t r) : rV t (toL t r) := ⟨Int.natCast_nonneg _, Int.le_refl _, adv_fit h hr⟩
section
variable {α β : Type} (o : α → Bool) (a : α → α)
def rwL : Nat → List α → List α
  | _, [] => []
  | n, x :: xs => if o x = true ∧ 0 < n then a x :: rwL (n - 1) xs else x :: rwL n xs
theorem rwL_len : ∀ (n : Nat) (xs : List α), (rwL o a n xs).length = xs.length
  | _, [] => rfl
  | n, x :: xs => by
    unfold rwL
    split <;> simp [rwL_len _ xs]
theorem rwL_zero : ∀ (xs : List α), rwL o a 0 xs = xs
  | [] => rfl
  | x :: xs => by unfold rwL; rw [if_neg (by omega), rwL_zero xs]
theorem rwL_pos {n : Nat} {x : α} {xs : List α} (h : o x = true ∧ 0 < n) : rwL o a n (x :: xs) = a x :: rwL o a (n - 1) xs := by rw [rwL, if_pos h]
theorem rwL_neg {n : Nat} {x : α} {xs : List α} (h : ¬ (o x = true ∧ 0 < n)) : rwL o a n (x :: xs) = x :: rwL o a n xs := by rw [rwL, if_neg h]
theorem rwL_app : ∀ (n : Nat) (xs ys : List α), rwL o a n (xs ++ ys) = rwL o a n xs ++ rwL o a (n - xs.countP o) ys
  | n, [], ys => rfl
  | n, x :: xs, ys => by
    rw [List.cons_append, List.countP_cons]
    by_cases h : o x = true ∧ 0 < n
    · rw [rwL_pos o a h, rwL_pos o a h, rwL_app (n - 1) xs ys, if_pos h.1, List.cons_append]
      congr 3; omega
    · rw [rwL_neg o a h, rwL_neg o a h, rwL_app n xs ys, List.cons_append]
      by_cases hx : o x = true
      · have : n = 0 := by
          rcases Nat.eq_zero_or_pos n with h1 | h1
          · exact h1
          · exact (h ⟨hx, h1⟩).elim
        subst this; simp
      · rw [if_neg hx]; simp
theorem rwL_get : ∀ (n : Nat) (xs : List α) (i : Nat) (h : i < xs.length) (h' : i < (rwL o a n xs).length), (rwL o a n xs)[i] = xs[i] ∨ (rwL o a n xs)[i] = a xs[i]
  | n, x :: xs, 0, h, h' => by
    simp only [rwL]
    split
    · exact .inr rfl
    · exact .inl rfl
  | n, x :: xs, i + 1, h, h' => by
    by_cases hc : o x = true ∧ 0 < n
    · have e : rwL o a n (x :: xs) = a x :: rwL o a (n - 1) xs := by rw [rwL, if_pos hc]
      simp only [e, List.getElem_cons_succ]
      exact rwL_get (n - 1) xs i _ _
    · have e : rwL o a n (x :: xs) = x :: rwL o a n xs := by rw [rwL, if_neg hc]
      simp only [e, List.getElem_cons_succ]
      exact rwL_get n xs i _ _
theorem rwL_one (n : Nat) (x : α) : rwL o a n [x] = [if o x = true ∧ 0 < n then a x else x] := by
  simp only [rwL]
  split <;> rfl
end
/-- Some rows rewritten. -/
def rwT (t : I_Table) (n : Nat) : I_Table := ⟨t.first, t.changes, rwL (oldB t) (toL t) n t.rows⟩
theorem rwT_v {t : I_Table} (h : tV t) (n : Nat) : tV (rwT t n) := by
  refine ⟨h.1, ?_, fun i hi => ?_⟩
  · show (rwL _ _ _ _).length ≤ 10
    rw [rwL_len]; exact h.2.1
  · have hi' : i < (rwL (oldB t) (toL t) n t.rows).length := hi
    rw [rwL_len] at hi'
    show rV t (rwL (oldB t) (toL t) n t.rows)[i]
    rcases rwL_get (oldB t) (toL t) n t.rows i hi' hi with e | e
    · rw [e]; exact h.2.2 i hi'
    · rw [e]; exact toL_v h (h.2.2 i hi')
def noT : I_Table := ⟨[], [], []⟩
/-- The rows of a table in the last format. -/
noncomputable def tR (t : I_Table) : List (List I_Value) := if tV t then t.rows.map (adv t) else []
section
variable {N : Nat} (hN : 100000000 ≤ N)
include hN
theorem lastI {t : I_Table} (hb : bT t) : m_I_Table_lastFormat N t = some (if tV t then (fL t, true) else ([], false)) := by
  have hcl := hb.c.1
  have hrl := hb.rl
  refine ok.val ?_
  unfold m_I_Table_lastFormat
  refine ok.eq (chainI hN hb.f hb.c) ?_
  by_cases ho : cO t.first t.changes
  · rw [if_pos ho]
    have hlen := chs_len t.first t.changes
    refine ok.bt rfl (ok.ite (fun h10 => ok.some ?_) fun h10 => ?_)
    · rw [if_neg fun e : tV t => by have := e.2.1; omega]
    · refine ok.call (P := fun o => (o = .inl () ∧ ∀ i (h : i < t.rows.length), rV t t.rows[i]) ∨ (o = .inr ([], false) ∧ ¬ ∀ i (h : i < t.rows.length), rV t t.rows[i])) (ok.each t.rows.length (fun i s => s = (i : Int) ∧ ∀ k (h : k < t.rows.length), k < i → rV t t.rows[k]) _ ?_ ?_ N 0 _ (Nat.zero_le _) ⟨rfl, fun k h hk => by omega⟩ (by omega)) ?_
      · rintro i s hi ⟨rfl, hg⟩
        show ok (m_I_Table_lastFormat_b1 N t _ (i : Int)) _
        unfold m_I_Table_lastFormat_b1
        refine ok.ift (by omega) (ok.eq (ixI_nat hi) (ok.ite (fun c1 => ok.some (.inr ⟨rfl, fun e => by have := (e i hi).1; omega⟩)) fun c1 => ok.ite (fun c2 => ok.some (.inr ⟨rfl, fun e => ?_⟩)) fun c2 => ?_))
        · have := (e i hi).2.1
          dsimp only at c2; omega
        · have hr := hb.r i hi
          dsimp only at c2
          have hv := cO_fA ho (i := t.rows[i].tag.toNat) (by omega)
          refine ok.eq (chs_ix (n := t.rows[i].tag.toNat) (by omega) (by omega)) (ok.eq (fitI hN (vF_bS hv) hr) (ok.ite (fun c3 => ok.chk (by omega) (ok.some ⟨by simp, fun k hk hki => ?_⟩)) fun c3 => ok.some (.inr ⟨rfl, fun e => c3 ⟨hv, (e i hi).2.2⟩⟩)))
          rcases Nat.lt_succ_iff_lt_or_eq.1 hki with h | rfl
          · exact hg k hk h
          · exact ⟨by omega, by omega, c3.2⟩
      · rintro s ⟨rfl, hg⟩
        show ok (m_I_Table_lastFormat_b1 N t _ _) _
        unfold m_I_Table_lastFormat_b1
        exact ok.iff (by omega) (ok.some (.inl ⟨rfl, fun k hk => hg k hk hk⟩))
      · rintro o (⟨rfl, h⟩ | ⟨rfl, h⟩)
        · rw [if_pos (show tV t from ⟨ho, by omega, h⟩)]
          show ok (m_I_Table_lastFormat_k1 N t _) _
          unfold m_I_Table_lastFormat_k1
          refine ok.eq (show m_I_Table_last N t = some (t.changes.length : Int) from rfl) (ok.eq (chs_ix rfl (Nat.le_refl _)) (ok.some rfl))
        · rw [if_neg fun e : tV t => h e.2.2]; exact ok.some rfl
  · rw [if_neg ho, if_neg fun e : tV t => ho e.1]
    exact ok.bf rfl (ok.some rfl)
theorem validTI {t : I_Table} (hb : bT t) : m_I_ValidTable N t = some (decide (tV t)) := by
  refine ok.val ?_
  unfold m_I_ValidTable
  refine ok.eq (lastI hN hb) (ok.some ?_)
  by_cases h : tV t
  · rw [if_pos h, decide_eq_true h]
  · rw [if_neg h, decide_eq_false h]
theorem validTS {t : I_Table} (hb : bT t) : m_S_validTable N t = some (decide (tV t)) := by
  have hcl := hb.c.1
  have hrl := hb.rl
  refine bool_eq ?_
  unfold m_S_validTable
  refine ok.eq (vchainS hN hb.f hb.c) (ok.ite (fun ho => ok.ite (fun h10 => ok.some ⟨fun e => (by cases e), fun e => by have := e.2.1; omega⟩) fun h10 => ?_) fun ho => ok.some ⟨fun e => (by cases e), fun e => (ho e.1).elim⟩)
  refine ok.eq (formatsS hN hb.f.1 (vF_bN ho.1) hb.c) ?_
  rw [if_pos ho.2.2]
  refine ok.call (all_ok (n := t.rows.length) 0 (fun i => ∀ (h : i < t.rows.length), rV t t.rows[i]) (by omega) (fun i hi _ => ?_) ?_) ?_
  · rw [Int.add_zero]
    show ok (m_S_validTable_b1 N t _ (i : Int)) _
    unfold m_S_validTable_b1
    refine ok.ift (by omega) (ok.eq (ixI_nat hi) (ok.eq (inRange_eq N _ _ _) (ok.ite (fun c1 => ?_) fun c1 => ok.some (.inr ⟨rfl, fun e => c1 ⟨(e hi).1, (e hi).2.1⟩⟩))))
    have hr := hb.r i hi
    have hv := cO_fA ho (i := t.rows[i].tag.toNat) (by omega)
    refine ok.eq (ixI_nat hi) (ok.eq (chs_ix (n := t.rows[i].tag.toNat) (by omega) (by omega)) (ok.eq (ixI_nat hi) (ok.eq (fitS hN hr hv.1.2) (ok.ite (fun c3 => ok.chk (by omega) (ok.some (.inl ⟨rfl, fun _ => ⟨c1.1, c1.2, c3⟩⟩))) fun c3 => ok.some (.inr ⟨rfl, fun e => c3 (e hi).2.2⟩)))))
  · rw [Int.add_zero]
    show m_S_validTable_b1 N t _ _ = _
    unfold m_S_validTable_b1
    rw [decide_eq_false (by omega)]; rfl
  · rintro o (⟨rfl, hh⟩ | ⟨rfl, hh⟩)
    · exact ok.some ⟨fun _ => ⟨ho, by omega, fun i hi => hh i hi hi⟩, fun _ => rfl⟩
    · exact ok.some ⟨fun e => (by cases e), fun e => (hh fun k hk h => e.2.2 k h).elim⟩
theorem read1I {t : I_Table} {r : I_Tagged} (h : tV t) (hc : bCs t.changes) (hr : rV t r) : m_I_Table_read N t r = some (adv t r) := by
  unfold m_I_Table_read
  refine ok.val ?_
  refine ok.eq (show m_I_Table_last N t = some (t.changes.length : Int) from rfl) (ok.eq (readI hN h.1 hc (n := r.tag.toNat) (by have := hr.1; omega) (by have := hr.2.1; omega) hr.2.2) (ok.some rfl))
theorem adv1S {t : I_Table} {r : I_Tagged} (h : tV t) (hr : rV t r) : m_S_advance N r.row (t.changes.drop r.tag.toNat) = some (adv t r) := advS hN h.1 (by have := hr.2.1; omega) hr.2.2
omit hN in
theorem map_take {α β : Type} (f : α → β) {xs : List α} {i : Nat} (h : i < xs.length) : (xs.take (i + 1)).map f = (xs.take i).map f ++ [f xs[i]] := by rw [take_succ1 h, List.map_append]; rfl
theorem rowsI {t : I_Table} (hb : bT t) : m_I_TableRows N t = some (tR t) := by
  have hrl := hb.rl
  refine ok.val ?_
  unfold m_I_TableRows tR
  refine ok.eq (validTI hN hb) (ok.ite (fun h => ?_) fun h => ok.some (by rw [if_neg h]))
  rw [if_pos h]
  refine ok.call (P := fun o => o = t.rows.map (adv t)) (ok.each t.rows.length (fun i s => s = ((i : Int), (t.rows.take i).map (adv t))) _ ?_ ?_ N 0 _ (Nat.zero_le _) rfl (by omega)) ?_
  · rintro i s hi rfl
    show ok (m_I_TableRows_b1 N t (i : Int) _) _
    unfold m_I_TableRows_b1
    refine ok.ift (by omega) (ok.eq (ixI_nat hi) (ok.eq (read1I hN h hb.c (h.2.2 i hi)) (ok.app (by simp; omega) (ok.chk (by omega) (ok.some ?_)))))
    rw [map_take _ hi]; simp
  · rintro s rfl
    show ok (m_I_TableRows_b1 N t _ _) _
    unfold m_I_TableRows_b1
    refine ok.iff (by omega) (ok.some ?_)
    rw [List.take_length]
  · rintro o rfl
    exact ok.some rfl
theorem latestS {t : I_Table} (h : tV t) : m_S_latest N t = some (t.rows.map (adv t)) := by
  have hrl := h.2.1
  have h8 := h.1.2.1
  refine ok.val ?_
  unfold m_S_latest
  refine ok.call (P := fun o => o = t.rows.map (adv t)) (ok.each t.rows.length (fun i s => s = ((i : Int), (t.rows.take i).map (adv t))) _ ?_ ?_ N 0 _ (Nat.zero_le _) rfl (by omega)) ?_
  · rintro i s hi rfl
    show ok (m_S_latest_b1 N t (i : Int) _) _
    unfold m_S_latest_b1
    have hr := h.2.2 i hi
    have h1 := hr.1
    have h2 := hr.2.1
    refine ok.ift (by omega) (ok.eq (ixI_nat hi) (ok.eq (ixI_nat hi) (ok.eq (subM_eq (by omega)) ?_)))
    rw [Int.toNat_natCast, List.take_of_length_le (by rw [List.length_drop]; exact Nat.le_refl _)]
    refine ok.eq (adv1S hN h hr) (ok.app (by simp; omega) (ok.chk (by omega) (ok.some ?_)))
    rw [map_take _ hi]; simp
  · rintro s rfl
    show ok (m_S_latest_b1 N t _ _) _
    unfold m_S_latest_b1
    refine ok.iff (by omega) (ok.some ?_)
    rw [List.take_length]
  · rintro o rfl
    exact ok.some rfl
theorem rowsS {t : I_Table} (hb : bT t) : m_S_TableRows N t = some (tR t) := by
  refine ok.val ?_
  unfold m_S_TableRows tR
  refine ok.eq (validTS hN hb) (ok.ite (fun h => ok.eq (latestS hN h) (ok.some (by rw [if_pos h]))) fun h => ok.some (by rw [if_neg h]))
omit hN in
theorem count_take {α : Type} (p : α → Bool) {xs : List α} {i : Nat} (h : i < xs.length) : (xs.take (i + 1)).countP p = (xs.take i).countP p + if p xs[i] = true then 1 else 0 := by
  rw [take_succ1 h, List.countP_append, List.countP_singleton]
end
end V
end Go.Proofs.YtikobdnhflcnmaaGreatDoor
