/- What the rows need, part 6. No condition. -/
import Derived.Shelf.Sort.Plain
import Derived.Shelf.Slices.In.SortNone
import Derived.Test.YtkjnnifnmoekjaaGreatDoorProg
import Derived.Test.YtkjnnifnmoekjaaGreatDoorQIaE
namespace Go.Proofs.YtkjnnifnmoekjaaGreatDoor
namespace V
set_option linter.unusedVariables false
set_option linter.unusedSimpArgs false
set_option maxHeartbeats 1000000
theorem bl_asym {x y : List UInt8} (h : Op.bytesLess x y = true) : Op.bytesLess y x = false := by
  have := bl_total x y
  rw [h, Bool.true_or] at this
  simpa using this.symm
theorem bl_trans : ∀ {x y z : List UInt8}, Op.bytesLess x y = true → Op.bytesLess z y = false → Op.bytesLess x z = true
  | _, [], _, h, _ => by simp [Op.bytesLess] at h
  | x, b :: y, [], _, h => by simp [Op.bytesLess] at h
  | [], b :: y, c :: z, _, _ => rfl
  | a :: x, b :: y, c :: z, h1, h2 => by
    simp only [Op.bytesLess, Bool.or_eq_true, Bool.and_eq_true, decide_eq_true_eq, beq_iff_eq, Bool.or_eq_false_iff, Bool.and_eq_false_iff, decide_eq_false_iff_not, beq_eq_false_iff_ne] at h1 h2 ⊢
    obtain ⟨h3, h4⟩ := h2
    have h3' : b.toNat ≤ c.toNat := by
      rcases Nat.lt_or_ge c.toNat b.toNat with h | h
      · exact (h3 (UInt8.lt_iff_toNat_lt.2 h)).elim
      · exact h
    rcases h1 with h | ⟨rfl, h⟩
    · left
      have := UInt8.lt_iff_toNat_lt.1 h
      exact UInt8.lt_iff_toNat_lt.2 (by omega)
    · rcases Nat.lt_or_ge a.toNat c.toNat with hc | hc
      · exact .inl (UInt8.lt_iff_toNat_lt.2 hc)
      · have hac : a = c := UInt8.toNat_inj.1 (by omega)
        subst hac
        rcases h4 with h4 | h4
        · exact (h4 rfl).elim
        · exact .inr ⟨rfl, bl_trans h h4⟩
section
variable {α : Type} {lt : α → α → Bool}
/-- x goes ahead of the last ones that are greater. -/
def insR (lt : α → α → Bool) (x : α) (l : List α) : List α := (l.reverse.dropWhile (lt x)).reverse ++ x :: (l.reverse.takeWhile (lt x)).reverse
theorem insR_t {x q : α} {l : List α} (h : lt x q = true) : insR lt x (l ++ [q]) = insR lt x l ++ [q] := by
  simp [insR, List.takeWhile_cons, List.dropWhile_cons, h]
theorem insR_f {x q : α} {l : List α} (h : lt x q = false) : insR lt x (l ++ [q]) = l ++ [q] ++ [x] := by
  simp [insR, List.takeWhile_cons, List.dropWhile_cons, h]
theorem insR_perm (x : α) (l : List α) : (insR lt x l).Perm (x :: l) := by
  have h : (l.reverse.dropWhile (lt x)).reverse ++ (l.reverse.takeWhile (lt x)).reverse = l := by
    rw [← List.reverse_append, List.takeWhile_append_dropWhile, List.reverse_reverse]
  have h2 : (insR lt x l).Perm (x :: ((l.reverse.dropWhile (lt x)).reverse ++ (l.reverse.takeWhile (lt x)).reverse)) := List.perm_middle
  rwa [h] at h2
theorem snoc_cases (l : List α) : l = [] ∨ ∃ A q, l = A ++ [q] := by
  rcases h : l.reverse with _ | ⟨q, A⟩
  · exact .inl (by simpa using h)
  · exact .inr ⟨A.reverse, q, by rw [← List.reverse_reverse l, h]; simp⟩
/-- No later one is less than an earlier one. -/
def asc (lt : α → α → Bool) (l : List α) : Prop := l.Pairwise fun a b => lt b a = false
theorem insR_asc (has : ∀ a b, lt a b = true → lt b a = false) (htr : ∀ a b c, lt a b = true → lt c b = false → lt a c = true) (x : α) : ∀ (n : Nat) (l : List α), l.length = n → asc lt l → asc lt (insR lt x l)
  | 0, l, hl, h => by
    obtain rfl := List.eq_nil_of_length_eq_zero hl
    exact List.pairwise_singleton _ _
  | n + 1, l, hl, h => by
    rcases snoc_cases l with rfl | ⟨A, q, rfl⟩
    · simp at hl
    have hA : A.length = n := by simpa using hl
    obtain ⟨h1, _, h3⟩ := List.pairwise_append.1 h
    cases hq : lt x q with
    | true =>
      rw [insR_t hq]
      refine List.pairwise_append.2 ⟨insR_asc has htr x n A hA h1, List.pairwise_singleton _ _, fun a ha b hb => ?_⟩
      obtain rfl : b = q := by simpa using hb
      rcases List.mem_cons.1 ((insR_perm x A).mem_iff.1 ha) with rfl | ha
      · exact has _ _ hq
      · exact h3 a ha b (by simp)
    | false =>
      rw [insR_f hq]
      refine List.pairwise_append.2 ⟨h, List.pairwise_singleton _ _, fun a ha b hb => ?_⟩
      obtain rfl : b = x := by simpa using hb
      rcases List.mem_append.1 ha with ha | ha
      · have hqa := h3 a ha q (by simp)
        cases hc : lt b a with
        | false => rfl
        | true => rw [htr b a q hc hqa] at hq; cases hq
      · obtain rfl : a = q := by simpa using ha
        exact hq
/-- All put in, one after the other. -/
def insA (lt : α → α → Bool) (l : List α) : List α := l.foldl (fun S p => insR lt p S) []
theorem insA_snoc (l : List α) (x : α) : insA lt (l ++ [x]) = insR lt x (insA lt l) := by simp [insA]
theorem insA_take {l : List α} {i : Nat} (h : i < l.length) : insA lt (l.take (i + 1)) = insR lt l[i] (insA lt (l.take i)) := by
  rw [take_succ1 h, insA_snoc]
theorem insA_perm : ∀ (n : Nat) (l : List α), l.length = n → (insA lt l).Perm l
  | 0, l, h => by
    obtain rfl := List.eq_nil_of_length_eq_zero h
    exact .refl _
  | n + 1, l, h => by
    rcases snoc_cases l with rfl | ⟨A, q, rfl⟩
    · simp at h
    rw [insA_snoc]
    refine (insR_perm q _).trans (((insA_perm n A (by simpa using h)).cons q).trans ?_)
    exact List.perm_append_singleton q A |>.symm
theorem insA_len (l : List α) : (insA lt l).length = l.length := (insA_perm _ l rfl).length_eq
theorem insA_asc (has : ∀ a b, lt a b = true → lt b a = false) (htr : ∀ a b c, lt a b = true → lt c b = false → lt a c = true) : ∀ (n : Nat) (l : List α), l.length = n → asc lt (insA lt l)
  | 0, l, h => by
    obtain rfl := List.eq_nil_of_length_eq_zero h
    exact .nil
  | n + 1, l, h => by
    rcases snoc_cases l with rfl | ⟨A, q, rfl⟩
    · simp at h
    rw [insA_snoc]
    exact insR_asc has htr q _ _ rfl (insA_asc has htr n A (by simpa using h))
/-- The loop that lets one sink in. -/
theorem insR_loop {x : α} {body : Int × List α → Option ((Int × List α) ⊕ List α)} {G : α → Prop} {m : Nat}
    (h1 : ∀ A q C, (A ++ q :: x :: C).length = m → G q → lt x q = true → body (((A.length + 1 : Nat) : Int), A ++ q :: x :: C) = some (.inl ((A.length : Int), A ++ x :: q :: C)))
    (h2 : ∀ A q C, (A ++ q :: x :: C).length = m → G q → lt x q = false → body (((A.length + 1 : Nat) : Int), A ++ q :: x :: C) = some (.inr (A ++ q :: x :: C)))
    (h3 : ∀ C, (x :: C).length = m → body (0, x :: C) = some (.inr (x :: C))) :
    ∀ (n N : Nat) (A C : List α), A.length = n → (A ++ x :: C).length = m → n < N → (∀ q ∈ A, G q) → loopM body N ((A.length : Int), A ++ x :: C) = some (insR lt x A ++ C)
  | n, 0, A, C, _, _, h, _ => by omega
  | 0, N + 1, A, C, hA, hm, _, _ => by
    obtain rfl := List.eq_nil_of_length_eq_zero hA
    unfold loopM
    have e : body ((([] : List α).length : Int), [] ++ x :: C) = some (.inr (x :: C)) := h3 C hm
    rw [e]; rfl
  | n + 1, N + 1, A, C, hA, hm, hN, hG => by
    rcases snoc_cases A with rfl | ⟨B, q, rfl⟩
    · simp at hA
    have hB : B.length = n := by simpa using hA
    have hm' : (B ++ q :: x :: C).length = m := by rw [← hm]; simp
    have hq := hG q (by simp)
    have e0 : B ++ [q] ++ x :: C = B ++ q :: x :: C := by simp
    have e1 : (((B ++ [q]).length : Nat) : Int) = ((B.length + 1 : Nat) : Int) := by simp
    unfold loopM
    rw [e0, e1]
    cases hl : lt x q with
    | true =>
      rw [h1 B q C hm' hq hl]
      show loopM body N ((B.length : Int), B ++ x :: q :: C) = _
      rw [insR_loop h1 h2 h3 n N B (q :: C) hB (by rw [← hm']; simp) (by omega) (fun a ha => hG a (by simp [ha])), insR_t hl]
      simp
    | false =>
      rw [h2 B q C hm' hq hl, insR_f hl]
      simp
end
/-- What the functions do where they change places. -/
theorem swap_set {α : Type} (A C : List α) (q x : α) : ((A ++ q :: x :: C).set (A.length + 1) q).set A.length x = A ++ x :: q :: C := by
  rw [List.set_append_right _ _ (by omega), List.set_append_right _ _ (by simp)]
  simp
theorem at_0 {α : Type} (A C : List α) (q : α) : ixI (A ++ q :: C) ((A.length : Nat) : Int) = some q := by
  rw [ixI_nat (by simp)]; simp
theorem at_1 {α : Type} (A C : List α) (q x : α) : ixI (A ++ q :: x :: C) ((A.length + 1 : Nat) : Int) = some x := by
  rw [ixI_nat (by simp)]; simp
end V
end Go.Proofs.YtkjnnifnmoekjaaGreatDoor
namespace Go.Proofs.YtkjnnifnmoekjaaGreatDoor
namespace V
set_option linter.unusedVariables false
set_option linter.unusedSimpArgs false
set_option maxHeartbeats 1000000
/-- A column that is valid. -/
def cV (c : I_Column) : Prop := (c.kind = 1 ∨ c.kind = 2) ∧ vV c.default ∧ (c.default.kind = 0 ∨ c.default.kind = c.kind)
noncomputable instance (c : I_Column) : Decidable (cV c) := Classical.propDecidable _
/-- A format that is valid. -/
def vF (f : List I_Column) : Prop := (1 ≤ f.length ∧ f.length ≤ 5) ∧ ∀ i (h : i < f.length), cV f[i]
noncomputable instance (f : List I_Column) : Decidable (vF f) := Classical.propDecidable _
/-- A change that is possible. -/
def poss (f : List I_Column) (c : I_Change) : Prop := (c.kind = 1 ∧ 0 ≤ c.at_ ∧ c.at_ ≤ f.length ∧ f.length < 5 ∧ cV c.column) ∨ (c.kind = 2 ∧ 0 ≤ c.at_ ∧ c.at_ < f.length ∧ 1 < f.length) ∨ (c.kind = 3 ∧ 0 ≤ c.at_ ∧ ∃ h : c.at_.toNat < f.length, f[c.at_.toNat].kind = 1)
noncomputable instance (f : List I_Column) (c : I_Change) : Decidable (poss f c) := Classical.propDecidable _
/-- A number made a text. -/
def wid (v : I_Value) : I_Value := if v.kind = 1 then ⟨2, 0, itoaB v.num⟩ else v
/-- A format after a change. -/
def chF (f : List I_Column) (c : I_Change) : List I_Column := if c.kind = 1 then f.insertIdx c.at_.toNat c.column else if c.kind = 2 then f.eraseIdx c.at_.toNat else f.modify c.at_.toNat fun x => ⟨2, wid x.default⟩
/-- A row after a change. -/
def mv (r : List I_Value) (c : I_Change) : List I_Value := if c.kind = 1 then r.insertIdx c.at_.toNat c.column.default else if c.kind = 2 then r.eraseIdx c.at_.toNat else r.modify c.at_.toNat wid
/-- A row has a format. -/
def fitP (f : List I_Column) (r : List I_Value) : Prop := r.length = f.length ∧ ∀ i (h : i < r.length) (h' : i < f.length), vV r[i] ∧ (r[i].kind = 0 ∨ r[i].kind = f[i].kind)
noncomputable instance (f : List I_Column) (r : List I_Value) : Decidable (fitP f r) := Classical.propDecidable _
/-- Texts are not too long. -/
def bS (f : List I_Column) : Prop := f.length ≤ 5000000 ∧ ∀ c ∈ f, c.default.text.size ≤ 5000000
/-- Numbers are not too large. -/
def bN (f : List I_Column) : Prop := ∀ c ∈ f, -1000000000 ≤ c.default.num ∧ c.default.num ≤ 1000000000
theorem vV_size {v : I_Value} (h : vV v) : v.text.size ≤ 12 := by
  rcases h with h | h | h
  · rw [h.2.2]; exact Nat.zero_le _
  · rw [h.2.2.2]; exact Nat.zero_le _
  · exact h.2.2.1
theorem vV_num {v : I_Value} (h : vV v) : -999999 ≤ v.num ∧ v.num ≤ 999999 := by rcases h with h | h | h <;> omega
theorem vV_wid {v : I_Value} (h : vV v) : vV (wid v) ∧ ((wid v).kind = 0 ∨ (wid v).kind = 2) := by
  unfold wid
  split
  · rename_i hk
    exact ⟨.inr (.inr ⟨rfl, rfl, itoaB_ok (vV_num h)⟩), .inr rfl⟩
  · rename_i hk
    exact ⟨h, by rcases h with h | h | h <;> omega⟩
theorem vF_bS {f : List I_Column} (h : vF f) : bS f := ⟨by have := h.1; omega, fun c hc => by
  obtain ⟨i, hi, rfl⟩ := List.mem_iff_getElem.1 hc
  have := vV_size (h.2 i hi).2.1; omega⟩
theorem vF_bN {f : List I_Column} (h : vF f) : bN f := fun c hc => by
  obtain ⟨i, hi, rfl⟩ := List.mem_iff_getElem.1 hc
  have := vV_num (h.2 i hi).2.1; omega
theorem wid_num {v : I_Value} (h : -1000000000 ≤ v.num ∧ v.num ≤ 1000000000) : -1000000000 ≤ (wid v).num ∧ (wid v).num ≤ 1000000000 := by
  unfold wid; split
  · dsimp only; omega
  · exact h
theorem poss_at {f : List I_Column} {c : I_Change} (h : poss f c) : 0 ≤ c.at_ ∧ c.at_ ≤ f.length := by
  rcases h with h | h | ⟨h1, h2, h3, h4⟩ <;> omega
theorem bN_chF {f : List I_Column} {c : I_Change} (h : bN f) (hp : poss f c) : bN (chF f c) := by
  intro x hx
  unfold chF at hx
  rcases hp with ⟨k, h1, h2, h3, h4⟩ | ⟨k, h1, h2, h3⟩ | ⟨k, h1, h2, h3⟩
  · rw [if_pos k, List.mem_insertIdx (by omega)] at hx
    rcases hx with rfl | hx
    · have := vV_num h4.2.1; omega
    · exact h x hx
  · rw [if_neg (by omega), if_pos k] at hx
    exact h x (List.mem_of_mem_eraseIdx hx)
  · rw [if_neg (by omega), if_neg (by omega)] at hx
    obtain ⟨i, hi, rfl⟩ := List.mem_iff_getElem.1 hx
    rw [List.getElem_modify]
    split
    · exact wid_num (h _ (List.getElem_mem _))
    · exact h _ (List.getElem_mem _)
theorem vF_chF {f : List I_Column} {c : I_Change} (h : vF f) (hp : poss f c) : vF (chF f c) := by
  unfold chF
  obtain ⟨hl, h⟩ := h
  rcases hp with ⟨k, h1, h2, h3, h4⟩ | ⟨k, h1, h2, h3⟩ | ⟨k, h1, h2, h3⟩
  · rw [if_pos k]
    refine ⟨by rw [List.length_insertIdx]; split <;> omega, fun i hi => ?_⟩
    rw [List.getElem_insertIdx]
    split
    · exact h _ _
    · split
      · exact h4
      · exact h _ _
  · rw [if_neg (by omega), if_pos k]
    refine ⟨by rw [List.length_eraseIdx]; split <;> omega, fun i hi => ?_⟩
    rw [List.getElem_eraseIdx]
    split <;> exact h _ _
  · rw [if_neg (by omega), if_neg (by omega)]
    refine ⟨by rw [List.length_modify]; omega, fun i hi => ?_⟩
    rw [List.getElem_modify]
    split
    · have := vV_wid (h i (by rw [List.length_modify] at hi; exact hi)).2.1
      exact ⟨.inr rfl, this.1, this.2⟩
    · exact h _ _
theorem fit_mv {f : List I_Column} {c : I_Change} {r : List I_Value} (h : fitP f r) (hp : poss f c) : fitP (chF f c) (mv r c) := by
  obtain ⟨hl, h⟩ := h
  unfold chF mv
  rcases hp with ⟨k, h1, h2, h3, h4⟩ | ⟨k, h1, h2, h3⟩ | ⟨k, h1, h2, h3⟩
  · rw [if_pos k, if_pos k]
    refine ⟨by rw [List.length_insertIdx, List.length_insertIdx, hl], fun i hi hi' => ?_⟩
    rw [List.length_insertIdx, if_pos (by omega)] at hi hi'
    rw [List.getElem_insertIdx, List.getElem_insertIdx]
    by_cases a1 : i < c.at_.toNat
    · rw [dif_pos a1, dif_pos a1]; exact h _ _ _
    · rw [dif_neg a1, dif_neg a1]
      by_cases a2 : i = c.at_.toNat
      · rw [dif_pos a2, dif_pos a2]; exact ⟨h4.2.1, h4.2.2⟩
      · rw [dif_neg a2, dif_neg a2]; exact h _ _ _
  · rw [if_neg (by omega), if_pos k, if_neg (by omega), if_pos k]
    refine ⟨by rw [List.length_eraseIdx, List.length_eraseIdx, hl], fun i hi hi' => ?_⟩
    rw [List.getElem_eraseIdx, List.getElem_eraseIdx]
    split <;> exact h _ _ _
  · rw [if_neg (by omega), if_neg (by omega), if_neg (by omega), if_neg (by omega)]
    refine ⟨by rw [List.length_modify, List.length_modify, hl], fun i hi hi' => ?_⟩
    rw [List.length_modify] at hi hi'
    rw [List.getElem_modify, List.getElem_modify]
    by_cases a : c.at_.toNat = i
    · rw [if_pos a, if_pos a]
      exact vV_wid (h i hi hi').1
    · rw [if_neg a, if_neg a]; exact h _ _ _
theorem mod_eq {α : Type} {xs : List α} {i : Nat} {f : α → α} (h : i < xs.length) : xs.modify i f = xs.set i (f xs[i]) := by
  apply List.ext_getElem
  · rw [List.length_modify, List.length_set]
  · intro k h1 h2
    rw [List.getElem_modify, List.getElem_set]
    by_cases a : i = k
    · subst a; simp
    · rw [if_neg a, if_neg a]
theorem ins_eq {α : Type} {xs : List α} {i : Nat} {a : α} (h : i ≤ xs.length) : xs.take i ++ a :: xs.drop i = xs.insertIdx i a := by
  apply List.ext_getElem
  · rw [List.length_insertIdx, if_pos h]; simp; omega
  · intro k h1 h2
    rw [List.getElem_insertIdx]
    by_cases a1 : k < i
    · rw [dif_pos a1, List.getElem_append_left (by simp; omega), List.getElem_take]
    · rw [dif_neg a1, List.getElem_append_right (by simp; omega)]
      simp only [List.length_take, Nat.min_eq_left h]
      by_cases a2 : k = i
      · subst a2; simp
      · rw [dif_neg a2]
        obtain ⟨m, hm⟩ : ∃ m, k - i = m + 1 := ⟨k - i - 1, by omega⟩
        simp only [hm, List.getElem_cons_succ, List.getElem_drop]
        congr 1; omega
theorem insM_eq {α : Type} {w : Nat} {xs : List α} {i : Int} {a : α} (h : 0 ≤ i ∧ i ≤ (xs.length : Int)) (hw : (xs.length + 1) * w ≤ 140737488355328 ∧ xs.length + 1 ≤ 4611686018427387904) : insM w xs i a = some (xs.insertIdx i.toNat a) := by
  unfold insM; rw [if_pos ⟨h.1, h.2, hw.1, hw.2⟩, ins_eq (by omega)]
theorem delM_eq {α : Type} {xs : List α} {i : Int} (h : 0 ≤ i ∧ i < (xs.length : Int)) : delM xs i (i + 1) = some (xs.eraseIdx i.toNat) := by
  unfold delM; rw [if_pos ⟨h.1, by omega, by omega, by omega⟩, List.eraseIdx_eq_take_drop_succ]
  congr 3; omega
theorem appM0 {α : Type} {w : Nat} {xs : List α} (h : xs.length * w ≤ 140737488355328 ∧ xs.length ≤ 4611686018427387904) : appM w [] xs = some xs := by
  rw [appM_eq (by simpa using h)]; rfl
section
variable {N : Nat} (hN : 100000000 ≤ N)
include hN
theorem cVI {c : I_Column} (h : c.default.text.size ≤ 5000000) : m_I_Column_valid N c = some (decide (cV c)) := by
  refine bool_eq ?_
  unfold m_I_Column_valid cV
  refine ok.ite (fun k1 => ok.eq (vVI hN h) (ok.ite (fun n0 => ok.ite (fun n1 => ok.some ?_) fun n1 => ok.some ?_) fun n0 => ok.some ?_)) fun k1 => ok.ite (fun k2 => ok.eq (vVI hN h) (ok.ite (fun n0 => ok.ite (fun n1 => ok.some ?_) fun n1 => ok.some ?_) fun n0 => ok.some ?_)) fun k2 => ok.some ?_
  · exact ⟨fun _ => ⟨.inl k1, n0, .inr n1⟩, fun _ => rfl⟩
  · rw [decide_eq_true_eq]; exact ⟨fun e => ⟨.inl k1, n0, .inl e⟩, fun e => by rcases e.2.2 with e | e; exact e; exact (n1 e).elim⟩
  · exact ⟨fun e => (by cases e), fun e => (n0 e.2.1).elim⟩
  · exact ⟨fun _ => ⟨.inr k2, n0, .inr n1⟩, fun _ => rfl⟩
  · rw [decide_eq_true_eq]; exact ⟨fun e => ⟨.inr k2, n0, .inl e⟩, fun e => by rcases e.2.2 with e | e; exact e; exact (n1 e).elim⟩
  · exact ⟨fun e => (by cases e), fun e => (n0 e.2.1).elim⟩
  · exact ⟨fun e => (by cases e), fun e => by rcases e.1 with e | e; exact (k1 e).elim; exact (k2 e).elim⟩
theorem cVS {c : I_Column} (h : c.default.text.size ≤ 5000000) : m_S_validColumn N c = some (decide (cV c)) := by
  refine bool_eq ?_
  unfold m_S_validColumn cV
  refine ok.eq (inRange_eq N _ _ _) (ok.ite (fun k1 => ok.eq (vVS hN h) (ok.ite (fun n0 => ok.ite (fun n1 => ok.some ?_) fun n1 => ok.some ?_) fun n0 => ok.some ?_)) fun k2 => ok.some ?_)
  · exact ⟨fun _ => ⟨by omega, n0, .inl n1⟩, fun _ => rfl⟩
  · rw [decide_eq_true_eq]; exact ⟨fun e => ⟨by omega, n0, .inr e⟩, fun e => by rcases e.2.2 with e | e; exact (n1 e).elim; exact e⟩
  · exact ⟨fun e => (by cases e), fun e => (n0 e.2.1).elim⟩
  · exact ⟨fun e => (by cases e), fun e => by omega⟩
theorem vFI {f : List I_Column} (h : bS f) : m_I_ValidFormat N f = some (decide (vF f)) := by
  have hl := h.1
  refine bool_eq ?_
  unfold m_I_ValidFormat vF
  refine ok.ite (fun h1 => ok.some ⟨fun e => (by cases e), fun e => by omega⟩) fun h1 => ok.ite (fun h2 => ok.some ⟨fun e => (by cases e), fun e => by omega⟩) fun h2 => ?_
  refine ok.call (all_ok (n := f.length) 0 (fun i => ∀ h : i < f.length, cV f[i]) (by omega) (fun i hi _ => ?_) ?_) ?_
  · rw [Int.add_zero]
    show ok (m_I_ValidFormat_b1 N f (i : Int)) _
    unfold m_I_ValidFormat_b1
    refine ok.ift (by omega) (ok.eq (ixI_nat hi) (ok.eq (cVI hN (h.2 _ (List.getElem_mem _))) (ok.ite (fun hc => ok.chk (by omega) (ok.some (.inl ⟨rfl, fun _ => hc⟩))) fun hc => ok.some (.inr ⟨rfl, fun e => hc (e hi)⟩))))
  · rw [Int.add_zero]
    show m_I_ValidFormat_b1 N f _ = _
    unfold m_I_ValidFormat_b1
    rw [decide_eq_false (by omega)]; rfl
  · rintro o (⟨rfl, hh⟩ | ⟨rfl, hh⟩)
    · exact ok.some ⟨fun _ => ⟨by omega, fun i hi => hh i hi hi⟩, fun _ => rfl⟩
    · exact ok.some ⟨fun e => (by cases e), fun e => (hh fun k hk h => e.2 k h).elim⟩
theorem vFS {f : List I_Column} (h : bS f) : m_S_validFormat N f = some (decide (vF f)) := by
  have hl := h.1
  refine bool_eq ?_
  unfold m_S_validFormat vF
  refine ok.call (all_ok (n := f.length) 0 (fun i => ∀ h : i < f.length, cV f[i]) (by omega) (fun i hi _ => ?_) ?_) ?_
  · rw [Int.add_zero]
    show ok (m_S_validFormat_b1 N f (i : Int)) _
    unfold m_S_validFormat_b1
    refine ok.ift (by omega) (ok.eq (ixI_nat hi) (ok.eq (cVS hN (h.2 _ (List.getElem_mem _))) (ok.ite (fun hc => ok.chk (by omega) (ok.some (.inl ⟨rfl, fun _ => hc⟩))) fun hc => ok.some (.inr ⟨rfl, fun e => hc (e hi)⟩))))
  · rw [Int.add_zero]
    show m_S_validFormat_b1 N f _ = _
    unfold m_S_validFormat_b1
    rw [decide_eq_false (by omega)]; rfl
  · rintro o (⟨rfl, hh⟩ | ⟨rfl, hh⟩)
    · refine ok.eq (inRange_eq N _ _ _) (ok.some ?_)
      rw [decide_eq_true_eq]
      exact ⟨fun e => ⟨by omega, fun i hi => hh i hi hi⟩, fun e => by omega⟩
    · exact ok.some ⟨fun e => (by cases e), fun e => (hh fun k hk h => e.2 k h).elim⟩
theorem possI {f : List I_Column} {c : I_Change} (h : c.column.default.text.size ≤ 5000000) : m_I_Change_possible N c f = some (decide (poss f c)) := by
  refine bool_eq ?_
  unfold m_I_Change_possible poss
  refine ok.ite (fun k1 => ok.ite (fun a1 => ok.ite (fun a2 => ok.ite (fun a3 => ok.eq (cVI hN h) (ok.some ?_)) fun a3 => ok.some ?_) fun a2 => ok.some ?_) fun a1 => ok.some ?_) fun k1 => ok.ite (fun k2 => ok.ite (fun a1 => ok.ite (fun a2 => ok.some ?_) fun a2 => ok.some ?_) fun a1 => ok.some ?_) fun k2 => ok.ite (fun k3 => ok.ite (fun a1 => ok.ite (fun a2 => ok.ix a1 a2 fun n hn he => ok.some ?_) fun a2 => ok.some ?_) fun a1 => ok.some ?_) fun k3 => ok.some ?_
  · rw [decide_eq_true_eq]; exact ⟨fun e => .inl ⟨k1, a1, a2, by omega, e⟩, fun e => by rcases e with e | e | e; exact e.2.2.2.2; omega; omega⟩
  · exact ⟨fun e => (by cases e), fun e => by omega⟩
  · exact ⟨fun e => (by cases e), fun e => by omega⟩
  · exact ⟨fun e => (by cases e), fun e => by omega⟩
  · rw [decide_eq_true_eq]; exact ⟨fun e => .inr (.inl ⟨k2, a1, a2, by omega⟩), fun e => by omega⟩
  · exact ⟨fun e => (by cases e), fun e => by omega⟩
  · exact ⟨fun e => (by cases e), fun e => by omega⟩
  · have he' : c.at_.toNat = n := by omega
    subst he'
    rw [decide_eq_true_eq]; exact ⟨fun e => .inr (.inr ⟨k3, a1, hn, e⟩), fun e => by rcases e with e | e | ⟨e1, e2, e3, e4⟩; omega; omega; exact e4⟩
  · exact ⟨fun e => (by cases e), fun e => by rcases e with e | e | ⟨e1, e2, e3, e4⟩ <;> omega⟩
  · exact ⟨fun e => (by cases e), fun e => by omega⟩
  · exact ⟨fun e => (by cases e), fun e => by omega⟩
theorem widI {v : I_Value} (h : vV v) : m_I_WidenValue N v = some (wid v) := by
  have hs := vV_size h
  have hn := vV_num h
  refine ok.val ?_
  unfold m_I_WidenValue wid
  refine ok.eq (vVI hN (by omega)) (ok.ift h (ok.ite (fun k => ok.eq (v := itoaB v.num) ?_ (ok.some ?_)) fun k => ok.some ?_))
  · unfold m_strconv_Itoa; rw [if_pos (by omega)]
  · rw [if_pos k]
  · rw [if_neg k]
theorem widS {v : I_Value} (h : -1000000000 ≤ v.num ∧ v.num ≤ 1000000000) : m_S_widen N v = some (wid v) := by
  refine ok.val ?_
  unfold m_S_widen wid
  refine ok.ite (fun k => ok.eq (decimal_ok (by omega) h) (ok.some ?_)) fun k => ok.some ?_
  · rw [if_pos k]
  · rw [if_neg k]
theorem chFI {f : List I_Column} {c : I_Change} (h : bS f) (hc : c.column.default.text.size ≤ 5000000) : m_I_ChangeFormat N f c = some (if vF f ∧ poss f c then (chF f c, true) else ([], false)) := by
  refine ok.val ?_
  unfold m_I_ChangeFormat
  refine ok.eq (vFI hN h) (ok.ite (fun hv => ok.eq (possI hN hc) (ok.ite (fun hp => ?_) fun hp => ok.some ?_)) fun hv => ok.some ?_)
  · rw [if_pos ⟨hv, hp⟩]
    have hl := hv.1
    refine ok.eq (show m_slices_Clone_I_Column N f = some f from appM0 (by omega)) ?_
    unfold chF
    rcases hp with ⟨k, h1, h2, h3, h4⟩ | ⟨k, h1, h2, h3⟩ | ⟨k, h1, h2, h3⟩
    · refine ok.ift k (ok.eq (insM_eq ⟨h1, h2⟩ (by omega)) (ok.some ?_))
      rw [if_pos k]
    · refine ok.iff (by omega) (ok.ift k (ok.chk (by omega) (ok.eq (delM_eq ⟨h1, h2⟩) (ok.some ?_))))
      rw [if_neg (by omega), if_pos k]
    · refine ok.iff (by omega) (ok.iff (by omega) (ok.eq (ixI_eq (n := c.at_.toNat) (by omega) h2) (ok.eq (widI hN (hv.2 _ _).2.1) (ok.some ?_))))
      rw [if_neg (by omega), if_neg (by omega), mod_eq h2]
  · rw [if_neg fun e => hp e.2]
  · rw [if_neg fun e => hv e.1]
theorem chFS {f : List I_Column} {c : I_Change} (hl : f.length ≤ 5000000) (h : bN f) (hc : c.column.default.text.size ≤ 5000000) : m_S_change N f c = some (if poss f c then (chF f c, true) else ([], false)) := by
  refine ok.val ?_
  unfold m_S_change
  have hcp : ∀ g : List I_Column, g.length ≤ 5000000 → m_S_copyColumns N g = some g := fun g hg => by
    unfold m_S_copyColumns
    rw [appM0 (by omega)]; rfl
  refine ok.ite (fun k => ok.eq (inRange_eq N _ _ _) (ok.ite (fun a => ok.eq (cVS hN hc) (ok.ite (fun b => ok.ite (fun l => ?_) fun l => ok.some ?_) fun b => ok.some ?_)) fun a => ok.some ?_)) fun k => ok.ite (fun k2 => ok.chk (by omega) (ok.eq (inRange_eq N _ _ _) (ok.ite (fun a => ok.ite (fun l => ?_) fun l => ok.some ?_) fun a => ok.some ?_))) fun k2 => ok.ite (fun k3 => ok.chk (by omega) (ok.eq (inRange_eq N _ _ _) (ok.ite (fun a => ok.ix (by omega) (by omega) fun n hn he => ok.ite (fun k1 => ok.eq (hcp _ hl) (ok.eq (ixI_eq he hn) (ok.eq (widS hN (h _ (List.getElem_mem _))) (ok.eq (ixI_eq he hn) (ok.some ?_))))) fun k1 => ok.some ?_) fun a => ok.some ?_))) fun k3 => ok.some ?_
  · have hp : poss f c := .inl ⟨k, a.1, a.2, by omega, b⟩
    rw [if_pos hp]
    refine ok.eq (subM_eq (by omega)) (ok.eq (hcp _ (by simp; omega)) (ok.app (by simp; omega) (ok.eq (subM_eq (by omega)) (ok.app (by simp; omega) (ok.some ?_)))))
    unfold chF
    rw [if_pos k, ← ins_eq (by omega)]
    simp only [Int.toNat_zero, List.drop_zero, Nat.sub_zero, List.append_assoc, List.singleton_append]
    congr 4
    exact List.take_of_length_le (by simp)
  · rw [if_neg]; rintro (e | e | ⟨e1, e2, e3, e4⟩) <;> omega
  · rw [if_neg]; rintro (e | e | ⟨e1, e2, e3, e4⟩); exact b e.2.2.2.2; omega; omega
  · rw [if_neg]; rintro (e | e | ⟨e1, e2, e3, e4⟩) <;> omega
  · have hp : poss f c := .inr (.inl ⟨k2, a.1, by omega, by omega⟩)
    rw [if_pos hp]
    refine ok.eq (subM_eq (by omega)) (ok.eq (hcp _ (by simp; omega)) (ok.chk (by omega) (ok.eq (subM_eq (by omega)) (ok.app (by simp; omega) (ok.some ?_)))))
    unfold chF
    rw [if_neg (by omega), if_pos k2, List.eraseIdx_eq_take_drop_succ]
    simp only [Int.toNat_zero, List.drop_zero, Nat.sub_zero]
    have e : (c.at_ + 1).toNat = c.at_.toNat + 1 := by omega
    rw [e]
    congr 2
    exact List.take_of_length_le (by simp)
  · rw [if_neg]; rintro (e | e | ⟨e1, e2, e3, e4⟩) <;> omega
  · rw [if_neg]; rintro (e | e | ⟨e1, e2, e3, e4⟩) <;> omega
  · obtain rfl : n = c.at_.toNat := by omega
    have hp : poss f c := .inr (.inr ⟨k3, by omega, hn, k1⟩)
    rw [if_pos hp]
    unfold chF
    rw [if_neg (by omega), if_neg (by omega), mod_eq hn]
  · obtain rfl : n = c.at_.toNat := by omega
    rw [if_neg]; rintro (e | e | ⟨e1, e2, e3, e4⟩); omega; omega; exact k1 e4
  · rw [if_neg]; rintro (e | e | ⟨e1, e2, e3, e4⟩) <;> omega
  · rw [if_neg]; rintro (e | e | ⟨e1, e2, e3, e4⟩) <;> omega
end
end V
end Go.Proofs.YtkjnnifnmoekjaaGreatDoor
namespace Go.Proofs.YtkjnnifnmoekjaaGreatDoor
namespace V
set_option linter.unusedVariables false
set_option linter.unusedSimpArgs false
set_option maxHeartbeats 1000000
/-- Format i of a chain. -/
def fA (f : List I_Column) (l : List I_Change) (i : Nat) : List I_Column := (l.take i).foldl chF f
theorem fA_succ (f : List I_Column) {l : List I_Change} {i : Nat} (h : i < l.length) : fA f l (i + 1) = chF (fA f l i) l[i] := by
  unfold fA; rw [take_succ1 h, List.foldl_append]; rfl
/-- All changes are possible. -/
def gC (f : List I_Column) (l : List I_Change) : Prop := ∀ i (h : i < l.length), poss (fA f l i) l[i]
noncomputable instance (f : List I_Column) (l : List I_Change) : Decidable (gC f l) := Classical.propDecidable _
/-- A chain of formats. -/
def cO (f : List I_Column) (l : List I_Change) : Prop := vF f ∧ l.length ≤ 8 ∧ gC f l
noncomputable instance (f : List I_Column) (l : List I_Change) : Decidable (cO f l) := Classical.propDecidable _
/-- The formats of a chain. -/
def chs (f : List I_Column) (l : List I_Change) : List (List I_Column) := (List.range (l.length + 1)).map (fA f l)
theorem chs_len (f : List I_Column) (l : List I_Change) : (chs f l).length = l.length + 1 := by unfold chs; simp
theorem chs_get {f : List I_Column} {l : List I_Change} {i : Nat} (h : i < (chs f l).length) : (chs f l)[i] = fA f l i := by show ((List.range (l.length + 1)).map (fA f l))[i]'(by simpa [chs] using h) = _; simp
theorem chs_ix {f : List I_Column} {l : List I_Change} {i : Int} {n : Nat} (h : i = n) (hn : n ≤ l.length) : ixI (chs f l) i = some (fA f l n) := by
  rw [ixI_eq h (by rw [chs_len]; omega), chs_get]
/-- Texts of changes are not too long. -/
def bCs (l : List I_Change) : Prop := l.length ≤ 5000000 ∧ ∀ c ∈ l, c.column.default.text.size ≤ 5000000
/-- A row that is valid. -/
def vRow (r : List I_Value) : Prop := r.length ≤ 5 ∧ ∀ i (h : i < r.length), vV r[i]
noncomputable instance (r : List I_Value) : Decidable (vRow r) := Classical.propDecidable _
/-- A row is not too large. -/
def bR (r : List I_Value) : Prop := r.length ≤ 5000000 ∧ ∀ v ∈ r, v.text.size ≤ 5000000
theorem fit_bR {f : List I_Column} {r : List I_Value} (h : fitP f r) (hl : f.length ≤ 5000000) : bR r := ⟨by have := h.1; omega, fun v hv => by
  obtain ⟨i, hi, rfl⟩ := List.mem_iff_getElem.1 hv
  have := vV_size (h.2 i hi (by have := h.1; omega)).1; omega⟩
theorem len_chF {f : List I_Column} {c : I_Change} (h : f.length ≤ 5000000) (hp : poss f c) : (chF f c).length ≤ 5000000 := by
  unfold chF
  split
  · rcases hp with e | e | ⟨e1, e2, e3, e4⟩
    · rw [List.length_insertIdx]; split <;> omega
    · omega
    · omega
  · split
    · rw [List.length_eraseIdx]; split <;> omega
    · rw [List.length_modify]; exact h
theorem vF_fA {f : List I_Column} {l : List I_Change} (h : vF f) : ∀ (i : Nat), i ≤ l.length → (∀ k (h : k < l.length), k < i → poss (fA f l k) l[k]) → vF (fA f l i)
  | 0, _, _ => h
  | i + 1, hi, hg => by
    rw [fA_succ f (by omega)]
    exact vF_chF (vF_fA h i (by omega) fun k hk hki => hg k hk (by omega)) (hg i (by omega) (by omega))
theorem bN_fA {f : List I_Column} {l : List I_Change} (h : bN f) (hl : f.length ≤ 5000000) : ∀ (i : Nat), i ≤ l.length → (∀ k (h : k < l.length), k < i → poss (fA f l k) l[k]) → bN (fA f l i) ∧ (fA f l i).length ≤ 5000000
  | 0, _, _ => ⟨h, hl⟩
  | i + 1, hi, hg => by
    rw [fA_succ f (by omega)]
    have h1 := bN_fA h hl i (by omega) fun k hk hki => hg k hk (by omega)
    have h2 := hg i (by omega) (by omega)
    exact ⟨bN_chF h1.1 h2, len_chF h1.2 h2⟩
theorem cO_fA {f : List I_Column} {l : List I_Change} (h : cO f l) {i : Nat} (hi : i ≤ l.length) : vF (fA f l i) := vF_fA h.1 i hi fun k hk _ => h.2.2 k hk
theorem ext_fA {f : List I_Column} {l : List I_Change} {i : Nat} (h : i < l.length) : (List.range (i + 1 + 1)).map (fA f l) = (List.range (i + 1)).map (fA f l) ++ [chF (fA f l i) l[i]] := by
  rw [List.range_succ (n := i + 1), List.map_append, ← fA_succ f h]; rfl
theorem rng_ix {f : List I_Column} {l : List I_Change} {i m : Nat} (h : i ≤ m) : ixI ((List.range (m + 1)).map (fA f l)) (i : Int) = some (fA f l i) := by
  rw [ixI_nat (by simp; omega)]; simp
/-- A row moved from format a to format i. -/
def mA (r : List I_Value) (l : List I_Change) (a i : Nat) : List I_Value := ((l.take i).drop a).foldl mv r
theorem mA_self (r : List I_Value) (l : List I_Change) (a : Nat) : mA r l a a = r := by
  unfold mA; rw [List.drop_eq_nil_of_le (by rw [List.length_take]; omega)]; rfl
theorem mA_succ (r : List I_Value) {l : List I_Change} {a i : Nat} (ha : a ≤ i) (h : i < l.length) : mA r l a (i + 1) = mv (mA r l a i) l[i] := by
  unfold mA; rw [take_succ1 h, List.drop_append_of_le_length (by rw [List.length_take]; omega), List.foldl_append]; rfl
theorem fit_mA {f : List I_Column} {l : List I_Change} {r : List I_Value} {a : Nat} (hg : gC f l) (h : fitP (fA f l a) r) : ∀ (i : Nat), a ≤ i → i ≤ l.length → fitP (fA f l i) (mA r l a i)
  | i, ha, hi => by
    rcases Nat.lt_or_eq_of_le ha with hlt | rfl
    · obtain ⟨i, rfl⟩ : ∃ j, i = j + 1 := ⟨i - 1, by omega⟩
      rw [fA_succ f (by omega), mA_succ r (by omega) (by omega)]
      exact fit_mv (fit_mA hg h i (by omega) (by omega)) (hg i (by omega))
    · rw [mA_self]; exact h
section
variable {N : Nat} (hN : 100000000 ≤ N)
include hN
omit hN in
theorem copyS {g : List I_Column} (hg : g.length ≤ 5000000) : m_S_copyColumns N g = some g := by
  unfold m_S_copyColumns
  rw [appM0 (by omega)]; rfl
theorem formatsS {f : List I_Column} {l : List I_Change} (hl : f.length ≤ 5000000) (hb : bN f) (hc : bCs l) : m_S_formats N f l = some (if gC f l then (chs f l, true) else ([], false)) := by
  have hcl := hc.1
  refine ok.val ?_
  unfold m_S_formats
  refine ok.eq (copyS hl) (ok.call (P := fun o => (o = .inl (chs f l) ∧ gC f l) ∨ (o = .inr ([], false) ∧ ¬ gC f l)) (ok.each l.length (fun i s => s = ((i : Int), (List.range (i + 1)).map (fA f l)) ∧ ∀ k (h : k < l.length), k < i → poss (fA f l k) l[k]) _ ?_ ?_ N 0 _ (Nat.zero_le _) ⟨rfl, fun k h hk => by omega⟩ (by omega)) ?_)
  · rintro i s hi ⟨rfl, hg⟩
    have hf := bN_fA hb hl i (by omega) hg
    show ok (m_S_formats_b1 N l (i : Int) _) _
    unfold m_S_formats_b1
    refine ok.ift (by omega) (ok.eq (rng_ix (Nat.le_refl _)) (ok.eq (ixI_nat hi) (ok.eq (chFS hN hf.2 hf.1 (hc.2 _ (List.getElem_mem _))) ?_)))
    by_cases hp : poss (fA f l i) l[i]
    · rw [if_pos hp]
      refine ok.bt rfl (ok.app (by simp; omega) (ok.chk (by omega) (ok.some ⟨?_, fun k hk hki => ?_⟩)))
      · rw [ext_fA hi]; simp
      · rcases Nat.lt_succ_iff_lt_or_eq.1 hki with h | rfl
        · exact hg k hk h
        · exact hp
    · rw [if_neg hp]
      exact ok.bf rfl (ok.some (.inr ⟨rfl, fun h => hp (h i hi)⟩))
  · rintro s ⟨rfl, hg⟩
    show ok (m_S_formats_b1 N l _ _) _
    unfold m_S_formats_b1
    exact ok.iff (by omega) (ok.some (.inl ⟨rfl, fun k hk => hg k hk hk⟩))
  · rintro o (⟨rfl, h⟩ | ⟨rfl, h⟩)
    · rw [if_pos h]; exact ok.some rfl
    · rw [if_neg h]; exact ok.some rfl
theorem chainI {f : List I_Column} {l : List I_Change} (hb : bS f) (hc : bCs l) : m_I_ChainOf N f l = some (if cO f l then (chs f l, true) else ([], false)) := by
  have hcl := hc.1
  have hl := hb.1
  refine ok.val ?_
  unfold m_I_ChainOf
  refine ok.eq (vFI hN hb) (ok.ite (fun hv => ok.ite (fun h8 => ok.some ?_) fun h8 => ?_) fun hv => ok.some ?_)
  · rw [if_neg fun e : cO f l => by have := e.2.1; omega]
  · refine ok.eq (show m_slices_Clone_I_Column N f = some f from appM0 (by omega)) (ok.call (P := fun o => (o = .inl (chs f l) ∧ gC f l) ∨ (o = .inr ([], false) ∧ ¬ gC f l)) (ok.each l.length (fun i s => s = ((i : Int), (List.range (i + 1)).map (fA f l)) ∧ ∀ k (h : k < l.length), k < i → poss (fA f l k) l[k]) _ ?_ ?_ N 0 _ (Nat.zero_le _) ⟨rfl, fun k h hk => by omega⟩ (by omega)) ?_)
    · rintro i s hi ⟨rfl, hg⟩
      have hf := vF_fA hv i (by omega) hg
      show ok (m_I_ChainOf_b1 N l (i : Int) _) _
      unfold m_I_ChainOf_b1
      refine ok.ift (by omega) (ok.eq (ixI_nat hi) (ok.eq (rng_ix (Nat.le_refl _)) (ok.eq (chFI hN (vF_bS hf) (hc.2 _ (List.getElem_mem _))) ?_)))
      by_cases hp : poss (fA f l i) l[i]
      · rw [if_pos ⟨hf, hp⟩]
        refine ok.bt rfl (ok.app (by simp; omega) (ok.chk (by omega) (ok.some ⟨?_, fun k hk hki => ?_⟩)))
        · rw [ext_fA hi]; simp
        · rcases Nat.lt_succ_iff_lt_or_eq.1 hki with h | rfl
          · exact hg k hk h
          · exact hp
      · rw [if_neg fun e => hp e.2]
        exact ok.bf rfl (ok.some (.inr ⟨rfl, fun h => hp (h i hi)⟩))
    · rintro s ⟨rfl, hg⟩
      show ok (m_I_ChainOf_b1 N l _ _) _
      unfold m_I_ChainOf_b1
      exact ok.iff (by omega) (ok.some (.inl ⟨rfl, fun k hk => hg k hk hk⟩))
    · rintro o (⟨rfl, h⟩ | ⟨rfl, h⟩)
      · rw [if_pos (show cO f l from ⟨hv, by omega, h⟩)]; exact ok.some rfl
      · rw [if_neg fun e : cO f l => h e.2.2]; exact ok.some rfl
  · rw [if_neg fun e : cO f l => hv e.1]
theorem vchainS {f : List I_Column} {l : List I_Change} (hb : bS f) (hc : bCs l) : m_S_validChain N f l = some (decide (cO f l)) := by
  refine bool_eq ?_
  unfold m_S_validChain
  refine ok.eq (vFS hN hb) (ok.ite (fun hv => ok.ite (fun h8 => ok.some ?_) fun h8 => ok.eq (formatsS hN hb.1 (vF_bN hv) hc) (ok.some ?_)) fun hv => ok.some ?_)
  · exact ⟨fun e => (by cases e), fun e => by have := e.2.1; omega⟩
  · by_cases hg : gC f l
    · rw [if_pos hg]; exact ⟨fun _ => ⟨hv, by omega, hg⟩, fun _ => rfl⟩
    · rw [if_neg hg]; exact ⟨fun e => (by cases e), fun e => (hg e.2.2).elim⟩
  · exact ⟨fun e => (by cases e), fun e => (hv e.1).elim⟩
theorem fitI {f : List I_Column} {r : List I_Value} (hb : bS f) (hr : bR r) : m_I_RowFits N f r = some (decide (vF f ∧ fitP f r)) := by
  have hrl := hr.1
  refine bool_eq ?_
  unfold m_I_RowFits fitP
  refine ok.eq (vFI hN hb) (ok.ite (fun hv => ok.ite (fun hl => ?_) fun hl => ok.some ⟨fun e => (by cases e), fun e => by have := e.2.1; omega⟩) fun hv => ok.some ⟨fun e => (by cases e), fun e => (hv e.1).elim⟩)
  refine ok.call (all_ok (n := r.length) 0 (fun i => ∀ (h : i < r.length) (h' : i < f.length), vV r[i] ∧ (r[i].kind = 0 ∨ r[i].kind = f[i].kind)) (by omega) (fun i hi _ => ?_) ?_) ?_
  · rw [Int.add_zero]
    have hi' : i < f.length := by omega
    show ok (m_I_RowFits_b1 N f r (i : Int)) _
    unfold m_I_RowFits_b1
    refine ok.ift (by omega) (ok.eq (ixI_nat hi) (ok.eq (vVI hN (hr.2 _ (List.getElem_mem _))) (ok.ite (fun hc => ok.ite (fun k0 => ok.chk (by omega) (ok.some (.inl ⟨rfl, fun _ _ => ⟨hc, .inl k0⟩⟩))) fun k0 => ok.eq (ixI_nat hi') (ok.ite (fun k1 => ok.chk (by omega) (ok.some (.inl ⟨rfl, fun _ _ => ⟨hc, .inr k1⟩⟩))) fun k1 => ok.some (.inr ⟨rfl, fun e => ?_⟩))) fun hc => ok.some (.inr ⟨rfl, fun e => hc (e hi hi').1⟩))))
    rcases (e hi hi').2 with e | e
    · exact k0 e
    · exact k1 e
  · rw [Int.add_zero]
    show m_I_RowFits_b1 N f r _ = _
    unfold m_I_RowFits_b1
    rw [decide_eq_false (by omega)]; rfl
  · rintro o (⟨rfl, hh⟩ | ⟨rfl, hh⟩)
    · exact ok.some ⟨fun _ => ⟨hv, by omega, fun i hi => hh i hi hi⟩, fun _ => rfl⟩
    · exact ok.some ⟨fun e => (by cases e), fun e => (hh fun k hk h => e.2.2 k h).elim⟩
theorem vrowS {r : List I_Value} (hr : bR r) : m_S_validRow N r = some (decide (vRow r)) := by
  have hrl := hr.1
  refine bool_eq ?_
  unfold m_S_validRow vRow
  refine ok.call (all_ok (n := r.length) 0 (fun i => ∀ (h : i < r.length), vV r[i]) (by omega) (fun i hi _ => ?_) ?_) ?_
  · rw [Int.add_zero]
    show ok (m_S_validRow_b1 N r (i : Int)) _
    unfold m_S_validRow_b1
    refine ok.ift (by omega) (ok.eq (ixI_nat hi) (ok.eq (vVS hN (hr.2 _ (List.getElem_mem _))) (ok.ite (fun hc => ok.chk (by omega) (ok.some (.inl ⟨rfl, fun _ => hc⟩))) fun hc => ok.some (.inr ⟨rfl, fun e => hc (e hi)⟩))))
  · rw [Int.add_zero]
    show m_S_validRow_b1 N r _ = _
    unfold m_S_validRow_b1
    rw [decide_eq_false (by omega)]; rfl
  · rintro o (⟨rfl, hh⟩ | ⟨rfl, hh⟩)
    · refine ok.some ?_
      rw [decide_eq_true_eq]
      exact ⟨fun e => ⟨by omega, fun i hi => hh i hi hi⟩, fun e => by have := e.1; omega⟩
    · exact ok.some ⟨fun e => (by cases e), fun e => (hh fun k hk h => e.2 k h).elim⟩
theorem fitS {f : List I_Column} {r : List I_Value} (hr : bR r) (hf : f.length ≤ 5) : m_S_fits N f r = some (decide (fitP f r)) := by
  have hrl := hr.1
  refine bool_eq ?_
  unfold m_S_fits
  refine ok.ite (fun hl => ?_) fun hl => ok.some ⟨fun e => (by cases e), fun e => by have := e.1; omega⟩
  refine ok.eq (vrowS hN hr) (ok.ite (fun hv => ?_) fun hv => ok.some ⟨fun e => (by cases e), fun e => (hv ⟨by omega, fun i hi => (e.2 i hi (by omega)).1⟩).elim⟩)
  unfold fitP
  refine ok.call (all_ok (n := r.length) 0 (fun i => ∀ (h : i < r.length) (h' : i < f.length), vV r[i] ∧ (r[i].kind = 0 ∨ r[i].kind = f[i].kind)) (by omega) (fun i hi _ => ?_) ?_) ?_
  · rw [Int.add_zero]
    have hi' : i < f.length := by omega
    have hc := hv.2 i hi
    show ok (m_S_fits_b1 N f r (i : Int)) _
    unfold m_S_fits_b1
    refine ok.ift (by omega) (ok.eq (ixI_nat hi) (ok.ite (fun k0 => ok.chk (by omega) (ok.some (.inl ⟨rfl, fun _ _ => ⟨hc, .inl k0⟩⟩))) fun k0 => ok.eq (ixI_nat hi) (ok.eq (ixI_nat hi') (ok.ite (fun k1 => ok.chk (by omega) (ok.some (.inl ⟨rfl, fun _ _ => ⟨hc, .inr k1⟩⟩))) fun k1 => ok.some (.inr ⟨rfl, fun e => ?_⟩)))))
    rcases (e hi hi').2 with e | e
    · exact k0 e
    · exact k1 e
  · rw [Int.add_zero]
    show m_S_fits_b1 N f r _ = _
    unfold m_S_fits_b1
    rw [decide_eq_false (by omega)]; rfl
  · rintro o (⟨rfl, hh⟩ | ⟨rfl, hh⟩)
    · exact ok.some ⟨fun _ => ⟨by omega, fun i hi => hh i hi hi⟩, fun _ => rfl⟩
    · exact ok.some ⟨fun e => (by cases e), fun e => (hh fun k hk h => e.2 k h).elim⟩
theorem chrowI {f : List I_Column} {r : List I_Value} {c : I_Change} (hv : vF f) (hf : fitP f r) (hp : poss f c) (hc : c.column.default.text.size ≤ 5000000) : m_I_ChangeRow N f r c = some (mv r c, true) := by
  have hl := hv.1
  have hrl := hf.1
  refine ok.val ?_
  unfold m_I_ChangeRow
  refine ok.eq (fitI hN (vF_bS hv) (fit_bR hf (by omega))) (ok.ift ⟨hv, hf⟩ (ok.eq (possI hN hc) (ok.ift hp (ok.eq (show m_slices_Clone_I_Value N r = some r from appM0 (by omega)) ?_))))
  unfold mv
  rcases hp with ⟨k, h1, h2, h3, h4⟩ | ⟨k, h1, h2, h3⟩ | ⟨k, h1, h2, h3⟩
  · refine ok.ift k (ok.eq (insM_eq ⟨h1, by omega⟩ (by omega)) (ok.some ?_))
    rw [if_pos k]
  · refine ok.iff (by omega) (ok.ift k (ok.chk (by omega) (ok.eq (delM_eq ⟨h1, by omega⟩) (ok.some ?_))))
    rw [if_neg (by omega), if_pos k]
  · have h2' : c.at_.toNat < r.length := by omega
    refine ok.iff (by omega) (ok.iff (by omega) (ok.eq (ixI_eq (n := c.at_.toNat) (by omega) h2') (ok.eq (widI hN (hf.2 _ h2' h2).1) (ok.some ?_))))
    rw [if_neg (by omega), if_neg (by omega), mod_eq h2']
theorem moveS {f : List I_Column} {r : List I_Value} {c : I_Change} (hv : vF f) (hf : fitP f r) (hp : poss f c) : m_S_move N r c = some (mv r c) := by
  have hl := hv.1
  have hrl := hf.1
  have hat := poss_at hp
  refine ok.val ?_
  unfold m_S_move
  refine ok.eq (subM_eq (by omega)) (ok.eq (appM0 (by simp; omega)) ?_)
  unfold mv
  rcases hp with ⟨k, h1, h2, h3, h4⟩ | ⟨k, h1, h2, h3⟩ | ⟨k, h1, h2, h3⟩
  · refine ok.ift k (ok.app (by simp; omega) (ok.eq (subM_eq (by omega)) (ok.app (by simp; omega) (ok.some ?_))))
    rw [if_pos k, ← ins_eq (by omega)]
    simp only [Int.toNat_zero, List.drop_zero, Nat.sub_zero, List.append_assoc, List.singleton_append]
    congr 2
    exact List.take_of_length_le (by simp)
  · refine ok.iff (by omega) (ok.iff (by omega) (ok.chk (by omega) (ok.eq (subM_eq (by omega)) (ok.app (by simp; omega) (ok.some ?_)))))
    rw [if_neg (by omega), if_pos k, List.eraseIdx_eq_take_drop_succ]
    have e : (c.at_ + 1).toNat = c.at_.toNat + 1 := by omega
    simp only [Int.toNat_zero, List.drop_zero, Nat.sub_zero, e]
    congr 1
    exact List.take_of_length_le (by simp)
  · have h2' : c.at_.toNat < r.length := by omega
    have hn := vV_num (hf.2 _ h2' h2).1
    refine ok.iff (by omega) (ok.ift k (ok.eq (ixI_eq (n := c.at_.toNat) (by omega) h2') (ok.eq (widS hN (by omega)) (ok.app (by simp; omega) (ok.chk (by omega) (ok.eq (subM_eq (by omega)) (ok.app (by simp; omega) (ok.some ?_))))))))
    rw [if_neg (by omega), if_neg (by omega), List.modify_eq_take_cons_drop h2']
    have e : (c.at_ + 1).toNat = c.at_.toNat + 1 := by omega
    simp only [Int.toNat_zero, List.drop_zero, Nat.sub_zero, e, List.append_assoc, List.singleton_append]
    congr 2
    exact List.take_of_length_le (by simp)
theorem readI {f : List I_Column} {l : List I_Change} {r : List I_Value} {a : Int} {n : Nat} (ho : cO f l) (hc : bCs l) (ha : a = n) (hn : n ≤ l.length) (hf : fitP (fA f l n) r) : m_I_ReadRow N f l a (l.length : Int) r = some (mA r l n l.length, true) := by
  subst ha
  have hcl := hc.1
  have hvn := cO_fA ho hn
  have hrl := hf.1
  have hvl := hvn.1
  refine ok.val ?_
  unfold m_I_ReadRow
  refine ok.eq (chainI hN (vF_bS ho.1) hc) ?_
  rw [if_pos ho]
  have hlen := chs_len f l
  refine ok.bt rfl (ok.iff (by omega) (ok.iff (by omega) (ok.iff (by dsimp only; omega) (ok.eq (chs_ix rfl hn) (ok.eq (fitI hN (vF_bS hvn) (fit_bR hf (by omega))) (ok.ift ⟨hvn, hf⟩ (ok.eq (show m_slices_Clone_I_Value N r = some r from appM0 (by omega)) ?_)))))))
  refine ok.call (P := fun o => o = .inl (mA r l n l.length)) (ok.each (l.length - n) (fun i s => s = (((n + i : Nat) : Int), mA r l n (n + i))) _ ?_ ?_ N 0 _ (Nat.zero_le _) (by rw [Nat.add_zero, mA_self]) (by omega)) ?_
  · rintro i s hi rfl
    show ok (m_I_ReadRow_b1 N l _ _ _ _) _
    unfold m_I_ReadRow_b1
    refine ok.ift (by omega) (ok.eq (chs_ix rfl (by omega)) (ok.eq (ixI_nat (by omega)) (ok.eq (chrowI hN (cO_fA ho (by omega)) (fit_mA ho.2.2 hf _ (by omega) (by omega)) (ho.2.2 (n + i) (by omega)) (hc.2 _ (List.getElem_mem _))) (ok.bt rfl (ok.chk (by omega) (ok.some ?_))))))
    rw [show n + (i + 1) = n + i + 1 from rfl, mA_succ r (by omega) (by omega)]; simp
  · rintro s rfl
    show ok (m_I_ReadRow_b1 N l _ _ _ _) _
    unfold m_I_ReadRow_b1
    refine ok.iff (by omega) (ok.some ?_)
    rw [show n + (l.length - n) = l.length by omega]
  · rintro o rfl
    exact ok.some rfl
theorem advS {f : List I_Column} {l : List I_Change} {r : List I_Value} {n : Nat} (ho : cO f l) (hn : n ≤ l.length) (hf : fitP (fA f l n) r) : m_S_advance N r (l.drop n) = some (mA r l n l.length) := by
  have h8 := ho.2.1
  have hvn := cO_fA ho hn
  have hrl := hf.1
  have hvl := hvn.1
  refine ok.val ?_
  unfold m_S_advance
  refine ok.eq (appM0 (by omega)) (ok.call (P := fun o => o = mA r l n l.length) (ok.each (l.length - n) (fun i s => s = ((i : Int), mA r l n (n + i))) _ ?_ ?_ N 0 _ (Nat.zero_le _) (by rw [Nat.add_zero, mA_self]; rfl) (by omega)) ?_)
  · rintro i s hi rfl
    show ok (m_S_advance_b1 N _ _ _) _
    unfold m_S_advance_b1
    have hd : i < (l.drop n).length := by simp; omega
    refine ok.ift (by simp; omega) (ok.eq (ixI_nat hd) ?_)
    have e : (l.drop n)[i] = l[n + i] := List.getElem_drop
    rw [e]
    refine ok.eq (moveS hN (cO_fA ho (by omega)) (fit_mA ho.2.2 hf _ (by omega) (by omega)) (ho.2.2 (n + i) (by omega))) (ok.chk (by omega) (ok.some ?_))
    rw [show n + (i + 1) = n + i + 1 from rfl, mA_succ r (by omega) (by omega)]; simp
  · rintro s rfl
    show ok (m_S_advance_b1 N _ _ _) _
    unfold m_S_advance_b1
    refine ok.iff (by simp) (ok.some ?_)
    rw [show n + (l.length - n) = l.length by omega]
  · rintro o rfl
    exact ok.some rfl
end
end V
end Go.Proofs.YtkjnnifnmoekjaaGreatDoor
namespace Go.Proofs.YtkjnnifnmoekjaaGreatDoor
namespace V
set_option linter.unusedVariables false
set_option linter.unusedSimpArgs false
set_option maxHeartbeats 1000000
/-- A row of a table that is valid. -/
def rV (t : I_Table) (r : I_Tagged) : Prop := 0 ≤ r.tag ∧ r.tag ≤ t.changes.length ∧ fitP (fA t.first t.changes r.tag.toNat) r.row
noncomputable instance (t : I_Table) (r : I_Tagged) : Decidable (rV t r) := Classical.propDecidable _
/-- A table that is valid. -/
def tV (t : I_Table) : Prop := cO t.first t.changes ∧ t.rows.length ≤ 10 ∧ ∀ i (h : i < t.rows.length), rV t t.rows[i]
noncomputable instance (t : I_Table) : Decidable (tV t) := Classical.propDecidable _
/-- A table is not too large. -/
structure bT (t : I_Table) : Prop where
  f : bS t.first
  c : bCs t.changes
  rl : t.rows.length ≤ 5000000
  r : ∀ i (h : i < t.rows.length), bR t.rows[i].row
/-- The last format. -/
def fL (t : I_Table) : List I_Column := fA t.first t.changes t.changes.length
theorem fL_v {t : I_Table} (h : tV t) : vF (fL t) := cO_fA h.1 (Nat.le_refl _)
theorem rV_bR {t : I_Table} {r : I_Tagged} (ho : cO t.first t.changes) (h : rV t r) : bR r.row := by
  have := (cO_fA ho (i := r.tag.toNat) (by have := h.2.1; omega)).1
  exact fit_bR h.2.2 (by omega)
theorem tV_bT {t : I_Table} (h : tV t) (hc : bCs t.changes) : bT t := ⟨vF_bS h.1.1, hc, by have := h.2.1; omega, fun i hi => rV_bR h.1 (h.2.2 i hi)⟩
/-- A row in the last format. -/
def adv (t : I_Table) (r : I_Tagged) : List I_Value := mA r.row t.changes r.tag.toNat t.changes.length
theorem adv_fit {t : I_Table} {r : I_Tagged} (h : tV t) (hr : rV t r) : fitP (fL t) (adv t r) := fit_mA h.1.2.2 hr.2.2 _ (by have := hr.2.1; omega) (Nat.le_refl _)
/-- A row is not in the last format. -/
def oldB (t : I_Table) (r : I_Tagged) : Bool := decide (r.tag ≠ t.changes.length)
/-- A row rewritten. -/
def toL (t : I_Table) (r : I_Tagged) : I_Tagged := ⟨t.changes.length, adv t r⟩
theorem toL_adv (t : I_Table) (r : I_Tagged) : adv t (toL t r) = adv t r := by
  show mA (adv t r) t.changes ((t.changes.length : Int)).toNat t.changes.length = _
  rw [Int.toNat_natCast, mA_self]
theorem toL_v {t : I_Table} {r : I_Tagged} (h : tV t) (hr : rV t r) : rV t (toL t r) := ⟨Int.natCast_nonneg _, Int.le_refl _, adv_fit h hr⟩
section
variable {α β : Type} (o : α → Bool) (a : α → α)
def rwL : Nat → List α → List α
  | _, [] => []
  | n, x :: xs => if o x = true ∧ 0 < n then a x :: rwL (n - 1) xs else x :: rwL n xs
theorem rwL_len : ∀ (n : Nat) (xs : List α), (rwL o a n xs).length = xs.length
  | _, [] => rfl
  | n, x :: xs => by
    unfold rwL
    split <;> simp [rwL_len _ xs]
theorem rwL_pos {n : Nat} {x : α} {xs : List α} (h : o x = true ∧ 0 < n) : rwL o a n (x :: xs) = a x :: rwL o a (n - 1) xs := by rw [rwL, if_pos h]
theorem rwL_neg {n : Nat} {x : α} {xs : List α} (h : ¬ (o x = true ∧ 0 < n)) : rwL o a n (x :: xs) = x :: rwL o a n xs := by rw [rwL, if_neg h]
theorem rwL_app : ∀ (n : Nat) (xs ys : List α), rwL o a n (xs ++ ys) = rwL o a n xs ++ rwL o a (n - xs.countP o) ys
  | n, [], ys => rfl
  | n, x :: xs, ys => by
    rw [List.cons_append, List.countP_cons]
    by_cases h : o x = true ∧ 0 < n
    · rw [rwL_pos o a h, rwL_pos o a h, rwL_app (n - 1) xs ys, if_pos h.1, List.cons_append]
      congr 3; omega
    · rw [rwL_neg o a h, rwL_neg o a h, rwL_app n xs ys, List.cons_append]
      by_cases hx : o x = true
      · have : n = 0 := by
          rcases Nat.eq_zero_or_pos n with h1 | h1
          · exact h1
          · exact (h ⟨hx, h1⟩).elim
        subst this; simp
      · rw [if_neg hx]; simp
theorem rwL_get : ∀ (n : Nat) (xs : List α) (i : Nat) (h : i < xs.length) (h' : i < (rwL o a n xs).length), (rwL o a n xs)[i] = xs[i] ∨ (rwL o a n xs)[i] = a xs[i]
  | n, x :: xs, 0, h, h' => by
    simp only [rwL]
    split
    · exact .inr rfl
    · exact .inl rfl
  | n, x :: xs, i + 1, h, h' => by
    by_cases hc : o x = true ∧ 0 < n
    · have e : rwL o a n (x :: xs) = a x :: rwL o a (n - 1) xs := by rw [rwL, if_pos hc]
      simp only [e, List.getElem_cons_succ]
      exact rwL_get (n - 1) xs i _ _
    · have e : rwL o a n (x :: xs) = x :: rwL o a n xs := by rw [rwL, if_neg hc]
      simp only [e, List.getElem_cons_succ]
      exact rwL_get n xs i _ _
theorem rwL_map (f : α → β) (hf : ∀ x, f (a x) = f x) : ∀ (n : Nat) (xs : List α), (rwL o a n xs).map f = xs.map f
  | _, [] => rfl
  | n, x :: xs => by
    unfold rwL
    split
    · rw [List.map_cons, hf, rwL_map f hf (n - 1) xs]; rfl
    · rw [List.map_cons, rwL_map f hf n xs]; rfl
theorem rwL_one (n : Nat) (x : α) : rwL o a n [x] = [if o x = true ∧ 0 < n then a x else x] := by
  simp only [rwL]
  split <;> rfl
end
/-- Some rows rewritten. -/
def rwT (t : I_Table) (n : Nat) : I_Table := ⟨t.first, t.changes, rwL (oldB t) (toL t) n t.rows⟩
theorem rwT_v {t : I_Table} (h : tV t) (n : Nat) : tV (rwT t n) := by
  refine ⟨h.1, ?_, fun i hi => ?_⟩
  · show (rwL _ _ _ _).length ≤ 10
    rw [rwL_len]; exact h.2.1
  · have hi' : i < (rwL (oldB t) (toL t) n t.rows).length := hi
    rw [rwL_len] at hi'
    show rV t (rwL (oldB t) (toL t) n t.rows)[i]
    rcases rwL_get (oldB t) (toL t) n t.rows i hi' hi with e | e
    · rw [e]; exact h.2.2 i hi'
    · rw [e]; exact toL_v h (h.2.2 i hi')
def noT : I_Table := ⟨[], [], []⟩
/-- The rows of a table in the last format. -/
noncomputable def tR (t : I_Table) : List (List I_Value) := if tV t then t.rows.map (adv t) else []
theorem fA_app (f : List I_Column) {l : List I_Change} (c : I_Change) {i : Nat} (h : i ≤ l.length) : fA f (l ++ [c]) i = fA f l i := by
  unfold fA; rw [List.take_append_of_le_length h]
theorem gC_app {f : List I_Column} {l : List I_Change} {c : I_Change} : gC f (l ++ [c]) ↔ gC f l ∧ poss (fA f l l.length) c := by
  constructor
  · intro h
    refine ⟨fun i hi => ?_, ?_⟩
    · have := h i (by simp; omega)
      rw [fA_app f c (by omega), List.getElem_append_left hi] at this; exact this
    · have := h l.length (by simp)
      rw [fA_app f c (Nat.le_refl _), List.getElem_append_right (Nat.le_refl _)] at this
      simpa using this
  · rintro ⟨h1, h2⟩ i hi
    rw [List.length_append, List.length_singleton] at hi
    rw [fA_app f c (by omega)]
    rcases Nat.lt_succ_iff_lt_or_eq.1 hi with h | rfl
    · rw [List.getElem_append_left h]; exact h1 i h
    · rw [List.getElem_append_right (Nat.le_refl _)]
      simp only [Nat.sub_self, List.getElem_cons_zero]; exact h2
section
variable {N : Nat} (hN : 100000000 ≤ N)
include hN
theorem lastI {t : I_Table} (hb : bT t) : m_I_Table_lastFormat N t = some (if tV t then (fL t, true) else ([], false)) := by
  have hcl := hb.c.1
  have hrl := hb.rl
  refine ok.val ?_
  unfold m_I_Table_lastFormat
  refine ok.eq (chainI hN hb.f hb.c) ?_
  by_cases ho : cO t.first t.changes
  · rw [if_pos ho]
    have hlen := chs_len t.first t.changes
    refine ok.bt rfl (ok.ite (fun h10 => ok.some ?_) fun h10 => ?_)
    · rw [if_neg fun e : tV t => by have := e.2.1; omega]
    · refine ok.call (P := fun o => (o = .inl () ∧ ∀ i (h : i < t.rows.length), rV t t.rows[i]) ∨ (o = .inr ([], false) ∧ ¬ ∀ i (h : i < t.rows.length), rV t t.rows[i])) (ok.each t.rows.length (fun i s => s = (i : Int) ∧ ∀ k (h : k < t.rows.length), k < i → rV t t.rows[k]) _ ?_ ?_ N 0 _ (Nat.zero_le _) ⟨rfl, fun k h hk => by omega⟩ (by omega)) ?_
      · rintro i s hi ⟨rfl, hg⟩
        show ok (m_I_Table_lastFormat_b1 N t _ (i : Int)) _
        unfold m_I_Table_lastFormat_b1
        refine ok.ift (by omega) (ok.eq (ixI_nat hi) (ok.ite (fun c1 => ok.some (.inr ⟨rfl, fun e => by have := (e i hi).1; omega⟩)) fun c1 => ok.ite (fun c2 => ok.some (.inr ⟨rfl, fun e => ?_⟩)) fun c2 => ?_))
        · have := (e i hi).2.1
          dsimp only at c2; omega
        · have hr := hb.r i hi
          dsimp only at c2
          have hv := cO_fA ho (i := t.rows[i].tag.toNat) (by omega)
          refine ok.eq (chs_ix (n := t.rows[i].tag.toNat) (by omega) (by omega)) (ok.eq (fitI hN (vF_bS hv) hr) (ok.ite (fun c3 => ok.chk (by omega) (ok.some ⟨by simp, fun k hk hki => ?_⟩)) fun c3 => ok.some (.inr ⟨rfl, fun e => c3 ⟨hv, (e i hi).2.2⟩⟩)))
          rcases Nat.lt_succ_iff_lt_or_eq.1 hki with h | rfl
          · exact hg k hk h
          · exact ⟨by omega, by omega, c3.2⟩
      · rintro s ⟨rfl, hg⟩
        show ok (m_I_Table_lastFormat_b1 N t _ _) _
        unfold m_I_Table_lastFormat_b1
        exact ok.iff (by omega) (ok.some (.inl ⟨rfl, fun k hk => hg k hk hk⟩))
      · rintro o (⟨rfl, h⟩ | ⟨rfl, h⟩)
        · rw [if_pos (show tV t from ⟨ho, by omega, h⟩)]
          show ok (m_I_Table_lastFormat_k1 N t _) _
          unfold m_I_Table_lastFormat_k1
          refine ok.eq (show m_I_Table_last N t = some (t.changes.length : Int) from rfl) (ok.eq (chs_ix rfl (Nat.le_refl _)) (ok.some rfl))
        · rw [if_neg fun e : tV t => h e.2.2]; exact ok.some rfl
  · rw [if_neg ho, if_neg fun e : tV t => ho e.1]
    exact ok.bf rfl (ok.some rfl)
theorem validTI {t : I_Table} (hb : bT t) : m_I_ValidTable N t = some (decide (tV t)) := by
  refine ok.val ?_
  unfold m_I_ValidTable
  refine ok.eq (lastI hN hb) (ok.some ?_)
  by_cases h : tV t
  · rw [if_pos h, decide_eq_true h]
  · rw [if_neg h, decide_eq_false h]
theorem validTS {t : I_Table} (hb : bT t) : m_S_validTable N t = some (decide (tV t)) := by
  have hcl := hb.c.1
  have hrl := hb.rl
  refine bool_eq ?_
  unfold m_S_validTable
  refine ok.eq (vchainS hN hb.f hb.c) (ok.ite (fun ho => ok.ite (fun h10 => ok.some ⟨fun e => (by cases e), fun e => by have := e.2.1; omega⟩) fun h10 => ?_) fun ho => ok.some ⟨fun e => (by cases e), fun e => (ho e.1).elim⟩)
  refine ok.eq (formatsS hN hb.f.1 (vF_bN ho.1) hb.c) ?_
  rw [if_pos ho.2.2]
  refine ok.call (all_ok (n := t.rows.length) 0 (fun i => ∀ (h : i < t.rows.length), rV t t.rows[i]) (by omega) (fun i hi _ => ?_) ?_) ?_
  · rw [Int.add_zero]
    show ok (m_S_validTable_b1 N t _ (i : Int)) _
    unfold m_S_validTable_b1
    refine ok.ift (by omega) (ok.eq (ixI_nat hi) (ok.eq (inRange_eq N _ _ _) (ok.ite (fun c1 => ?_) fun c1 => ok.some (.inr ⟨rfl, fun e => c1 ⟨(e hi).1, (e hi).2.1⟩⟩))))
    have hr := hb.r i hi
    have hv := cO_fA ho (i := t.rows[i].tag.toNat) (by omega)
    refine ok.eq (ixI_nat hi) (ok.eq (chs_ix (n := t.rows[i].tag.toNat) (by omega) (by omega)) (ok.eq (ixI_nat hi) (ok.eq (fitS hN hr hv.1.2) (ok.ite (fun c3 => ok.chk (by omega) (ok.some (.inl ⟨rfl, fun _ => ⟨c1.1, c1.2, c3⟩⟩))) fun c3 => ok.some (.inr ⟨rfl, fun e => c3 (e hi).2.2⟩)))))
  · rw [Int.add_zero]
    show m_S_validTable_b1 N t _ _ = _
    unfold m_S_validTable_b1
    rw [decide_eq_false (by omega)]; rfl
  · rintro o (⟨rfl, hh⟩ | ⟨rfl, hh⟩)
    · exact ok.some ⟨fun _ => ⟨ho, by omega, fun i hi => hh i hi hi⟩, fun _ => rfl⟩
    · exact ok.some ⟨fun e => (by cases e), fun e => (hh fun k hk h => e.2.2 k h).elim⟩
theorem read1I {t : I_Table} {r : I_Tagged} (h : tV t) (hc : bCs t.changes) (hr : rV t r) : m_I_Table_read N t r = some (adv t r) := by
  unfold m_I_Table_read
  refine ok.val ?_
  refine ok.eq (show m_I_Table_last N t = some (t.changes.length : Int) from rfl) (ok.eq (readI hN h.1 hc (n := r.tag.toNat) (by have := hr.1; omega) (by have := hr.2.1; omega) hr.2.2) (ok.some rfl))
theorem adv1S {t : I_Table} {r : I_Tagged} (h : tV t) (hr : rV t r) : m_S_advance N r.row (t.changes.drop r.tag.toNat) = some (adv t r) := advS hN h.1 (by have := hr.2.1; omega) hr.2.2
omit hN in
theorem map_take {α β : Type} (f : α → β) {xs : List α} {i : Nat} (h : i < xs.length) : (xs.take (i + 1)).map f = (xs.take i).map f ++ [f xs[i]] := by rw [take_succ1 h, List.map_append]; rfl
theorem rowsI {t : I_Table} (hb : bT t) : m_I_TableRows N t = some (tR t) := by
  have hrl := hb.rl
  refine ok.val ?_
  unfold m_I_TableRows tR
  refine ok.eq (validTI hN hb) (ok.ite (fun h => ?_) fun h => ok.some (by rw [if_neg h]))
  rw [if_pos h]
  refine ok.call (P := fun o => o = t.rows.map (adv t)) (ok.each t.rows.length (fun i s => s = ((i : Int), (t.rows.take i).map (adv t))) _ ?_ ?_ N 0 _ (Nat.zero_le _) rfl (by omega)) ?_
  · rintro i s hi rfl
    show ok (m_I_TableRows_b1 N t (i : Int) _) _
    unfold m_I_TableRows_b1
    refine ok.ift (by omega) (ok.eq (ixI_nat hi) (ok.eq (read1I hN h hb.c (h.2.2 i hi)) (ok.app (by simp; omega) (ok.chk (by omega) (ok.some ?_)))))
    rw [map_take _ hi]; simp
  · rintro s rfl
    show ok (m_I_TableRows_b1 N t _ _) _
    unfold m_I_TableRows_b1
    refine ok.iff (by omega) (ok.some ?_)
    rw [List.take_length]
  · rintro o rfl
    exact ok.some rfl
theorem latestS {t : I_Table} (h : tV t) : m_S_latest N t = some (t.rows.map (adv t)) := by
  have hrl := h.2.1
  have h8 := h.1.2.1
  refine ok.val ?_
  unfold m_S_latest
  refine ok.call (P := fun o => o = t.rows.map (adv t)) (ok.each t.rows.length (fun i s => s = ((i : Int), (t.rows.take i).map (adv t))) _ ?_ ?_ N 0 _ (Nat.zero_le _) rfl (by omega)) ?_
  · rintro i s hi rfl
    show ok (m_S_latest_b1 N t (i : Int) _) _
    unfold m_S_latest_b1
    have hr := h.2.2 i hi
    have h1 := hr.1
    have h2 := hr.2.1
    refine ok.ift (by omega) (ok.eq (ixI_nat hi) (ok.eq (ixI_nat hi) (ok.eq (subM_eq (by omega)) ?_)))
    rw [Int.toNat_natCast, List.take_of_length_le (by rw [List.length_drop]; exact Nat.le_refl _)]
    refine ok.eq (adv1S hN h hr) (ok.app (by simp; omega) (ok.chk (by omega) (ok.some ?_)))
    rw [map_take _ hi]; simp
  · rintro s rfl
    show ok (m_S_latest_b1 N t _ _) _
    unfold m_S_latest_b1
    refine ok.iff (by omega) (ok.some ?_)
    rw [List.take_length]
  · rintro o rfl
    exact ok.some rfl
omit hN in
theorem count_take {α : Type} (p : α → Bool) {xs : List α} {i : Nat} (h : i < xs.length) : (xs.take (i + 1)).countP p = (xs.take i).countP p + if p xs[i] = true then 1 else 0 := by
  rw [take_succ1 h, List.countP_append, List.countP_singleton]
end
end V
end Go.Proofs.YtkjnnifnmoekjaaGreatDoor
namespace Go.Proofs
open Go.Shelf
end Go.Proofs
namespace Go.Proofs.YtkjnnifnmoekjaaGreatDoor
namespace V
end V
end Go.Proofs.YtkjnnifnmoekjaaGreatDoor
namespace Go.Proofs.YtkjnnifnmoekjaaGreatDoor
namespace V
open Go.Sort
set_option linter.unusedVariables false
set_option linter.unusedSimpArgs false
end V
end Go.Proofs.YtkjnnifnmoekjaaGreatDoor
namespace Go.Proofs.YtkjnnifnmoekjaaGreatDoor
namespace V
open Enc (enc)
set_option linter.unusedVariables false
set_option linter.unusedSimpArgs false
set_option maxHeartbeats 4000000
set_option maxRecDepth 100000
open Go.RowKit
attribute [local irreducible] thA inA FinA eL
end V
end Go.Proofs.YtkjnnifnmoekjaaGreatDoor
namespace Go.Proofs.YtkjnnifnmoekjaaGreatDoor
namespace V
open Enc (enc)
set_option linter.unusedVariables false
set_option linter.unusedSimpArgs false
set_option maxHeartbeats 4000000
set_option maxRecDepth 100000
open Go.RowKit
attribute [local irreducible] thA inA FinA eL
def m_S_randomValue (N : Nat) (p_r : S_reader) (p_kind : Int) : Option (I_Value × S_reader) :=
  cond (decide (p_kind < (0 : Int)))
    ((m_S_reader_pick N p_r (3 : Int)).bind fun r2 =>
    (m_S_reader_pick N r2.2 (8 : Int)).bind fun r4 =>
    cond (decide (r4.1 = (0 : Int)))
      (some ((I_Value.mk (0 : Int) (0 : Int) ByteArray.empty), r4.2))
      (cond (decide (r2.1 = (1 : Int)))
        ((m_S_reader_pick N r4.2 (250 : Int)).bind fun r8 =>
        (chk (r8.1 * (777 : Int))).bind fun n10 =>
        (m_S_reader_one N r8.2 [(0 : Int), (1 : Int), (7 : Int), (-7 : Int), (79 : Int), (80 : Int), (4000 : Int), (200000 : Int), (999999 : Int), (-999999 : Int), n10]).bind fun r12 =>
        some ((I_Value.mk r2.1 r12.1 ByteArray.empty), r12.2))
        (cond (decide (r2.1 = (2 : Int)))
          ((m_S_reader_of N r4.2 ([ByteArray.empty, (ByteArray.mk #[97]), (ByteArray.mk #[97, 98]), (ByteArray.mk #[98]), (ByteArray.mk #[49, 50]), (ByteArray.mk #[45, 55]), (ByteArray.mk #[126, 126]), (ByteArray.mk #[97, 32, 98]), (ByteArray.mk #[97, 98, 99, 100, 101, 102, 103, 104, 105, 106, 107, 108]), (ByteArray.mk #[32])])).bind fun r15 =>
          some ((I_Value.mk r2.1 (0 : Int) r15.1), r15.2))
          (some ((I_Value.mk (0 : Int) (0 : Int) ByteArray.empty), r4.2)))))
    ((m_S_reader_pick N p_r (8 : Int)).bind fun r17 =>
    cond (decide (r17.1 = (0 : Int)))
      (some ((I_Value.mk (0 : Int) (0 : Int) ByteArray.empty), r17.2))
      (cond (decide (p_kind = (1 : Int)))
        ((m_S_reader_pick N r17.2 (250 : Int)).bind fun r21 =>
        (chk (r21.1 * (777 : Int))).bind fun n23 =>
        (m_S_reader_one N r21.2 [(0 : Int), (1 : Int), (7 : Int), (-7 : Int), (79 : Int), (80 : Int), (4000 : Int), (200000 : Int), (999999 : Int), (-999999 : Int), n23]).bind fun r25 =>
        some ((I_Value.mk p_kind r25.1 ByteArray.empty), r25.2))
        (cond (decide (p_kind = (2 : Int)))
          ((m_S_reader_of N r17.2 ([ByteArray.empty, (ByteArray.mk #[97]), (ByteArray.mk #[97, 98]), (ByteArray.mk #[98]), (ByteArray.mk #[49, 50]), (ByteArray.mk #[45, 55]), (ByteArray.mk #[126, 126]), (ByteArray.mk #[97, 32, 98]), (ByteArray.mk #[97, 98, 99, 100, 101, 102, 103, 104, 105, 106, 107, 108]), (ByteArray.mk #[32])])).bind fun r28 =>
          some ((I_Value.mk p_kind (0 : Int) r28.1), r28.2))
          (some ((I_Value.mk (0 : Int) (0 : Int) ByteArray.empty), r17.2)))))
theorem w_S_randomValue (N : Nat) (p_r : S_reader) (p_kind : Int) (r : I_Value × S_reader) (hh0 : m_S_randomValue N p_r p_kind = some r) : FnX Tryz.prog 102 [⟨.mx [sL p_r.b, iA p_r.p], 136, 0⟩] [.op 0 0, iA p_kind] (RE (.agg [iA r.1.kind, iA r.1.num, sA r.1.text]) [⟨.mx [sL r.2.b, iA r.2.p], 136, 0⟩]) := by
  unfold m_S_randomValue at hh0; refine FnX.mk Tryz.func102 rfl rfl ?_; intro s hs; refine PC.seq ?_; refine PC.region ?_; refine PL.ef rfl (Ef.alloc rfl rfl) ?_; refine PL.nm (.op 1 0) [some ⟨.mx [sL p_r.b, iA p_r.p], 136, 0⟩, some ⟨.mx [iA (0 : Int), iA (0 : Int), sA ByteArray.empty], 39, 0⟩] rfl rfl ?_; refine PL.nil ?_; refine thA_n ?_; (iterate 2 refine PC.seq ?_); refine PC.region ?_; refine PL.op rfl (Rd.moveT rfl) ?_; refine PL.op rfl (Rd.lss rfl rfl) ?_; refine PL.nil ?_; refine thA_n ?_; rcases cond_some hh0 with ⟨h_1, hh0⟩ | ⟨h_1, hh0⟩; rotate_left
  · refine PC.cond_false rfl h_1 ?_; refine PC.skip ?_; refine thA_n ?_; (iterate 2 refine PC.seq ?_); obtain ⟨r17, h_18, hh0⟩ := bind_some hh0; refine PC.region ?_; refine PL.op rfl (Rd.moveP rfl) ?_; refine PL.callM false [0] (w_S_reader_pick N p_r (8 : Int) r17 h_18) rfl Tryz.call67 rfl ⟨.op rfl, .t _, trivial⟩ rfl ⟨⟨_, rfl, rfl, rfl, .mx ⟨.t _, .t _, trivial⟩⟩, trivial⟩ (fun h => by cases h) ?_; refine PL.nm (iA r17.1) [some ⟨.mx [sL r17.2.b, iA r17.2.p], 136, 0⟩, some ⟨.mx [iA (0 : Int), iA (0 : Int), sA ByteArray.empty], 39, 0⟩] rfl rfl ?_; refine PL.op rfl (Rd.eql rfl rfl) ?_; refine PL.nil ?_; refine thA_n ?_; rcases cond_some hh0 with ⟨h_19, hh0⟩ | ⟨h_19, hh0⟩
    · refine PC.cond_true rfl h_19 ?_; refine PC.region ?_; refine PL.op rfl (Rd.asnT rfl) ?_; refine PL.nil ?_; refine thA_n ?_; (iterate 2 refine PC.seq ?_); refine PC.region ?_; refine PL.op rfl (Rd.moveT rfl) ?_; refine PL.nil ?_; refine thA_n ?_; refine PC.block ?_; refine PC.seq ?_; refine PC.region ?_; refine PL.op rfl (Rd.eql rfl rfl) ?_; refine PL.op rfl (Rd.asnT rfl) ?_; refine PL.nil ?_; refine thA_n ?_; refine PC.cond_false rfl (by decide) ?_; refine PC.seq ?_; refine PC.region ?_; refine PL.op rfl (Rd.eql rfl rfl) ?_; refine PL.op rfl (Rd.asnT rfl) ?_; refine PL.nil ?_; refine thA_n ?_; refine PC.cond_false rfl (by decide) ?_; refine PC.skip ?_; refine inA_n ?_; refine thA_n ?_; refine PC.seq ?_; refine PC.region ?_; refine PL.op rfl (Rd.build rfl rfl rfl rfl) ?_; refine PL.store rfl rfl rfl rfl rfl rfl rfl ?_; refine PL.nil ?_; refine thA_n ?_; refine PC.ret ?_; obtain rfl := some_in hh0; exact FinA.mk (r := .agg [iA (((I_Value.mk (0 : Int) (0 : Int) ByteArray.empty), r17.2).1.kind), iA (((I_Value.mk (0 : Int) (0 : Int) ByteArray.empty), r17.2).1.num), sA (((I_Value.mk (0 : Int) (0 : Int) ByteArray.empty), r17.2).1.text)]) (bl := [⟨.mx [sL (((I_Value.mk (0 : Int) (0 : Int) ByteArray.empty), r17.2).2.b), iA (((I_Value.mk (0 : Int) (0 : Int) ByteArray.empty), r17.2).2.p)], 136, 0⟩]) [some 0] (.inl rfl) rfl (rl := [.cell 4 39]) (.cellN rfl rfl rfl rfl .nil) rfl rfl rfl (.aggL ⟨.t _, .t _, .t _, trivial⟩) ⟨⟨_, rfl, rfl, rfl, .mx ⟨.t _, .t _, trivial⟩⟩, trivial⟩ ⟨rfl, rfl⟩
    refine PC.cond_false rfl h_19 ?_; refine PC.skip ?_; refine thA_n ?_; (iterate 2 refine PC.seq ?_); refine PC.region ?_; refine PL.op rfl (Rd.moveT rfl) ?_; refine PL.nil ?_; refine thA_n ?_; refine PC.block ?_; refine PC.seq ?_; refine PC.region ?_; refine PL.op rfl (Rd.eql rfl rfl) ?_; refine PL.op rfl (Rd.asnT rfl) ?_; refine PL.nil ?_; refine thA_n ?_; rcases cond_some hh0 with ⟨h_20, hh0⟩ | ⟨h_20, hh0⟩; rotate_left
    · refine PC.cond_false rfl h_20 ?_; refine PC.seq ?_; refine PC.region ?_; refine PL.op rfl (Rd.eql rfl rfl) ?_; refine PL.op rfl (Rd.asnT rfl) ?_; refine PL.nil ?_; refine thA_n ?_; rcases cond_some hh0 with ⟨h_27, hh0⟩ | ⟨h_27, hh0⟩; rotate_left
      · refine PC.cond_false rfl h_27 ?_; refine PC.skip ?_; refine inA_n ?_; refine thA_n ?_; refine PC.seq ?_; refine PC.region ?_; refine PL.op rfl (Rd.build rfl rfl rfl rfl) ?_; refine PL.store rfl rfl rfl rfl rfl rfl rfl ?_; refine PL.nil ?_; refine thA_n ?_; refine PC.ret ?_; obtain rfl := some_in hh0; exact FinA.mk (r := .agg [iA (((I_Value.mk (0 : Int) (0 : Int) ByteArray.empty), r17.2).1.kind), iA (((I_Value.mk (0 : Int) (0 : Int) ByteArray.empty), r17.2).1.num), sA (((I_Value.mk (0 : Int) (0 : Int) ByteArray.empty), r17.2).1.text)]) (bl := [⟨.mx [sL (((I_Value.mk (0 : Int) (0 : Int) ByteArray.empty), r17.2).2.b), iA (((I_Value.mk (0 : Int) (0 : Int) ByteArray.empty), r17.2).2.p)], 136, 0⟩]) [some 0] (.inl rfl) rfl (rl := [.cell 4 39]) (.cellN rfl rfl rfl rfl .nil) rfl rfl rfl (.aggL ⟨.t _, .t _, .t _, trivial⟩) ⟨⟨_, rfl, rfl, rfl, .mx ⟨.t _, .t _, trivial⟩⟩, trivial⟩ ⟨rfl, rfl⟩
      refine PC.cond_true rfl h_27 ?_; refine PC.seq ?_; obtain ⟨r28, h_29, hh0⟩ := bind_some hh0; refine PC.region ?_; refine PL.op rfl (Rd.moveT rfl) ?_; refine PL.op rfl (Rd.moveP rfl) ?_; refine PL.er rfl (Er.strs [ByteArray.empty, (ByteArray.mk #[97]), (ByteArray.mk #[97, 98]), (ByteArray.mk #[98]), (ByteArray.mk #[49, 50]), (ByteArray.mk #[45, 55]), (ByteArray.mk #[126, 126]), (ByteArray.mk #[97, 32, 98]), (ByteArray.mk #[97, 98, 99, 100, 101, 102, 103, 104, 105, 106, 107, 108]), (ByteArray.mk #[32])] rfl rfl (by decide) rfl) ?_; refine PL.callM false [0] (w_S_reader_of N r17.2 ([ByteArray.empty, (ByteArray.mk #[97]), (ByteArray.mk #[97, 98]), (ByteArray.mk #[98]), (ByteArray.mk #[49, 50]), (ByteArray.mk #[45, 55]), (ByteArray.mk #[126, 126]), (ByteArray.mk #[97, 32, 98]), (ByteArray.mk #[97, 98, 99, 100, 101, 102, 103, 104, 105, 106, 107, 108]), (ByteArray.mk #[32])]) r28 h_29) rfl Tryz.call103 rfl ⟨.op rfl, .t _, trivial⟩ rfl ⟨⟨_, rfl, rfl, rfl, .mx ⟨.t _, .t _, trivial⟩⟩, trivial⟩ (fun h => by cases h) ?_; refine PL.nm (sA r28.1) [some ⟨.mx [sL r28.2.b, iA r28.2.p], 136, 0⟩, some ⟨.mx [iA (0 : Int), iA (0 : Int), sA ByteArray.empty], 39, 0⟩] rfl rfl ?_; refine PL.op rfl (Rd.build rfl rfl rfl rfl) ?_; refine PL.store rfl rfl rfl rfl rfl rfl rfl ?_; refine PL.nO [some ⟨.mx [sL r28.2.b, iA r28.2.p], 136, 0⟩, some ⟨.mx [iA p_kind, iA (0 : Int), sA r28.1], 39, 0⟩] rfl ?_; refine PL.nil ?_; refine thA_n ?_; refine PC.ret ?_; refine inA_r ?_; refine thA_r ?_; obtain rfl := some_in hh0; exact FinA.mk (r := .agg [iA (((I_Value.mk p_kind (0 : Int) r28.1), r28.2).1.kind), iA (((I_Value.mk p_kind (0 : Int) r28.1), r28.2).1.num), sA (((I_Value.mk p_kind (0 : Int) r28.1), r28.2).1.text)]) (bl := [⟨.mx [sL (((I_Value.mk p_kind (0 : Int) r28.1), r28.2).2.b), iA (((I_Value.mk p_kind (0 : Int) r28.1), r28.2).2.p)], 136, 0⟩]) [some 0] (.inl rfl) rfl (rl := [.cell 4 39]) (.cellN rfl rfl rfl rfl .nil) rfl rfl rfl (.aggL ⟨.t _, .t _, .t _, trivial⟩) ⟨⟨_, rfl, rfl, rfl, .mx ⟨.t _, .t _, trivial⟩⟩, trivial⟩ ⟨rfl, rfl⟩
    refine PC.cond_true rfl h_20 ?_; refine PC.seq ?_; obtain ⟨r21, h_22, hh0⟩ := bind_some hh0; obtain ⟨n23, h_24, hh0⟩ := bind_some hh0; obtain ⟨r25, h_26, hh0⟩ := bind_some hh0; refine PC.region ?_; refine PL.op rfl (Rd.moveT rfl) ?_; (iterate 2 refine PL.op rfl (Rd.moveP rfl) ?_); refine PL.callM false [0] (w_S_reader_pick N r17.2 (250 : Int) r21 h_22) rfl Tryz.call67 rfl ⟨.op rfl, .t _, trivial⟩ rfl ⟨⟨_, rfl, rfl, rfl, .mx ⟨.t _, .t _, trivial⟩⟩, trivial⟩ (fun h => by cases h) ?_; refine PL.nm (iA r21.1) [some ⟨.mx [sL r21.2.b, iA r21.2.p], 136, 0⟩, some ⟨.mx [iA (0 : Int), iA (0 : Int), sA ByteArray.empty], 39, 0⟩] rfl rfl ?_; refine PL.op rfl (Rd.mulM rfl rfl h_24) ?_; refine PL.ef rfl (Ef.litM (α := Int) [(0 : Int), (1 : Int), (7 : Int), (-7 : Int), (79 : Int), (80 : Int), (4000 : Int), (200000 : Int), (999999 : Int), (-999999 : Int), n23] [_, _, _, _, _, _, _, _, _, _, _] rfl rfl (by decide) rfl rfl rfl rfl) ?_; refine PL.nm (.os 2 0 11) [some ⟨.mx [sL r21.2.b, iA r21.2.p], 136, 0⟩, some ⟨.mx [iA (0 : Int), iA (0 : Int), sA ByteArray.empty], 39, 0⟩, some ⟨.tr (eL [(0 : Int), (1 : Int), (7 : Int), (-7 : Int), (79 : Int), (80 : Int), (4000 : Int), (200000 : Int), (999999 : Int), (-999999 : Int), n23]), 3, 1⟩] rfl rfl ?_; refine PL.frz hs 2 3 [(20, sL [(0 : Int), (1 : Int), (7 : Int), (-7 : Int), (79 : Int), (80 : Int), (4000 : Int), (200000 : Int), (999999 : Int), (-999999 : Int), n23])] [some ⟨.mx [sL r21.2.b, iA r21.2.p], 136, 0⟩, some ⟨.mx [iA (0 : Int), iA (0 : Int), sA ByteArray.empty], 39, 0⟩, none] rfl rfl ⟨(.own rfl (by decide) rfl rfl), trivial⟩ ⟨⟨rfl, .inl rfl⟩, ⟨rfl, .inl rfl⟩, trivial⟩ ?_; refine PL.callM false [0] (w_S_reader_one N r21.2 [(0 : Int), (1 : Int), (7 : Int), (-7 : Int), (79 : Int), (80 : Int), (4000 : Int), (200000 : Int), (999999 : Int), (-999999 : Int), n23] r25 h_26) rfl Tryz.call53 rfl ⟨.op rfl, .t _, trivial⟩ rfl ⟨⟨_, rfl, rfl, rfl, .mx ⟨.t _, .t _, trivial⟩⟩, trivial⟩ (fun h => by cases h) ?_; refine PL.nm (iA r25.1) [some ⟨.mx [sL r25.2.b, iA r25.2.p], 136, 0⟩, some ⟨.mx [iA (0 : Int), iA (0 : Int), sA ByteArray.empty], 39, 0⟩, none] rfl rfl ?_; refine PL.op rfl (Rd.build rfl rfl rfl rfl) ?_; refine PL.store rfl rfl rfl rfl rfl rfl rfl ?_; refine PL.nO [some ⟨.mx [sL r25.2.b, iA r25.2.p], 136, 0⟩, some ⟨.mx [iA p_kind, iA r25.1, sA ByteArray.empty], 39, 0⟩, none] rfl ?_; refine PL.nil ?_; refine thA_n ?_; refine PC.ret ?_; refine inA_r ?_; refine thA_r ?_; obtain rfl := some_in hh0; exact FinA.mk (r := .agg [iA (((I_Value.mk p_kind r25.1 ByteArray.empty), r25.2).1.kind), iA (((I_Value.mk p_kind r25.1 ByteArray.empty), r25.2).1.num), sA (((I_Value.mk p_kind r25.1 ByteArray.empty), r25.2).1.text)]) (bl := [⟨.mx [sL (((I_Value.mk p_kind r25.1 ByteArray.empty), r25.2).2.b), iA (((I_Value.mk p_kind r25.1 ByteArray.empty), r25.2).2.p)], 136, 0⟩]) [some 0] (.inl rfl) rfl (rl := [.cell 4 39]) (.cellN rfl rfl rfl rfl .nil) rfl rfl rfl (.aggL ⟨.t _, .t _, .t _, trivial⟩) ⟨⟨_, rfl, rfl, rfl, .mx ⟨.t _, .t _, trivial⟩⟩, trivial⟩ ⟨rfl, rfl⟩
  refine PC.cond_true rfl h_1 ?_; obtain ⟨r2, h_3, hh0⟩ := bind_some hh0; refine PC.region ?_; refine PL.op rfl (Rd.moveP rfl) ?_; refine PL.callM false [0] (w_S_reader_pick N p_r (3 : Int) r2 h_3) rfl Tryz.call67 rfl ⟨.op rfl, .t _, trivial⟩ rfl ⟨⟨_, rfl, rfl, rfl, .mx ⟨.t _, .t _, trivial⟩⟩, trivial⟩ (fun h => by cases h) ?_; refine PL.nm (iA r2.1) [some ⟨.mx [sL r2.2.b, iA r2.2.p], 136, 0⟩, some ⟨.mx [iA (0 : Int), iA (0 : Int), sA ByteArray.empty], 39, 0⟩] rfl rfl ?_; refine PL.op rfl (Rd.asnT rfl) ?_; refine PL.nil ?_; refine thA_n ?_; (iterate 2 refine PC.seq ?_); obtain ⟨r4, h_5, hh0⟩ := bind_some hh0; refine PC.region ?_; refine PL.op rfl (Rd.moveP rfl) ?_; refine PL.callM false [0] (w_S_reader_pick N r2.2 (8 : Int) r4 h_5) rfl Tryz.call67 rfl ⟨.op rfl, .t _, trivial⟩ rfl ⟨⟨_, rfl, rfl, rfl, .mx ⟨.t _, .t _, trivial⟩⟩, trivial⟩ (fun h => by cases h) ?_; refine PL.nm (iA r4.1) [some ⟨.mx [sL r4.2.b, iA r4.2.p], 136, 0⟩, some ⟨.mx [iA (0 : Int), iA (0 : Int), sA ByteArray.empty], 39, 0⟩] rfl rfl ?_; refine PL.op rfl (Rd.eql rfl rfl) ?_; refine PL.nil ?_; refine thA_n ?_; rcases cond_some hh0 with ⟨h_6, hh0⟩ | ⟨h_6, hh0⟩
  · refine PC.cond_true rfl h_6 ?_; refine PC.region ?_; refine PL.op rfl (Rd.asnT rfl) ?_; refine PL.nil ?_; refine thA_n ?_; (iterate 2 refine PC.seq ?_); refine PC.region ?_; refine PL.op rfl (Rd.moveT rfl) ?_; refine PL.nil ?_; refine thA_n ?_; refine PC.block ?_; refine PC.seq ?_; refine PC.region ?_; refine PL.op rfl (Rd.eql rfl rfl) ?_; refine PL.op rfl (Rd.asnT rfl) ?_; refine PL.nil ?_; refine thA_n ?_; refine PC.cond_false rfl (by decide) ?_; refine PC.seq ?_; refine PC.region ?_; refine PL.op rfl (Rd.eql rfl rfl) ?_; refine PL.op rfl (Rd.asnT rfl) ?_; refine PL.nil ?_; refine thA_n ?_; refine PC.cond_false rfl (by decide) ?_; refine PC.skip ?_; refine inA_n ?_; refine thA_n ?_; refine PC.seq ?_; refine PC.region ?_; refine PL.op rfl (Rd.build rfl rfl rfl rfl) ?_; refine PL.store rfl rfl rfl rfl rfl rfl rfl ?_; refine PL.nil ?_; refine thA_n ?_; refine PC.ret ?_; obtain rfl := some_in hh0; exact FinA.mk (r := .agg [iA (((I_Value.mk (0 : Int) (0 : Int) ByteArray.empty), r4.2).1.kind), iA (((I_Value.mk (0 : Int) (0 : Int) ByteArray.empty), r4.2).1.num), sA (((I_Value.mk (0 : Int) (0 : Int) ByteArray.empty), r4.2).1.text)]) (bl := [⟨.mx [sL (((I_Value.mk (0 : Int) (0 : Int) ByteArray.empty), r4.2).2.b), iA (((I_Value.mk (0 : Int) (0 : Int) ByteArray.empty), r4.2).2.p)], 136, 0⟩]) [some 0] (.inl rfl) rfl (rl := [.cell 4 39]) (.cellN rfl rfl rfl rfl .nil) rfl rfl rfl (.aggL ⟨.t _, .t _, .t _, trivial⟩) ⟨⟨_, rfl, rfl, rfl, .mx ⟨.t _, .t _, trivial⟩⟩, trivial⟩ ⟨rfl, rfl⟩
  refine PC.cond_false rfl h_6 ?_; refine PC.skip ?_; refine thA_n ?_; (iterate 2 refine PC.seq ?_); refine PC.region ?_; refine PL.op rfl (Rd.moveT rfl) ?_; refine PL.nil ?_; refine thA_n ?_; refine PC.block ?_; refine PC.seq ?_; refine PC.region ?_; refine PL.op rfl (Rd.eql rfl rfl) ?_; refine PL.op rfl (Rd.asnT rfl) ?_; refine PL.nil ?_; refine thA_n ?_; rcases cond_some hh0 with ⟨h_7, hh0⟩ | ⟨h_7, hh0⟩; rotate_left
  · refine PC.cond_false rfl h_7 ?_; refine PC.seq ?_; refine PC.region ?_; refine PL.op rfl (Rd.eql rfl rfl) ?_; refine PL.op rfl (Rd.asnT rfl) ?_; refine PL.nil ?_; refine thA_n ?_; rcases cond_some hh0 with ⟨h_14, hh0⟩ | ⟨h_14, hh0⟩; rotate_left
    · refine PC.cond_false rfl h_14 ?_; refine PC.skip ?_; refine inA_n ?_; refine thA_n ?_; refine PC.seq ?_; refine PC.region ?_; refine PL.op rfl (Rd.build rfl rfl rfl rfl) ?_; refine PL.store rfl rfl rfl rfl rfl rfl rfl ?_; refine PL.nil ?_; refine thA_n ?_; refine PC.ret ?_; obtain rfl := some_in hh0; exact FinA.mk (r := .agg [iA (((I_Value.mk (0 : Int) (0 : Int) ByteArray.empty), r4.2).1.kind), iA (((I_Value.mk (0 : Int) (0 : Int) ByteArray.empty), r4.2).1.num), sA (((I_Value.mk (0 : Int) (0 : Int) ByteArray.empty), r4.2).1.text)]) (bl := [⟨.mx [sL (((I_Value.mk (0 : Int) (0 : Int) ByteArray.empty), r4.2).2.b), iA (((I_Value.mk (0 : Int) (0 : Int) ByteArray.empty), r4.2).2.p)], 136, 0⟩]) [some 0] (.inl rfl) rfl (rl := [.cell 4 39]) (.cellN rfl rfl rfl rfl .nil) rfl rfl rfl (.aggL ⟨.t _, .t _, .t _, trivial⟩) ⟨⟨_, rfl, rfl, rfl, .mx ⟨.t _, .t _, trivial⟩⟩, trivial⟩ ⟨rfl, rfl⟩
    refine PC.cond_true rfl h_14 ?_; refine PC.seq ?_; obtain ⟨r15, h_16, hh0⟩ := bind_some hh0; refine PC.region ?_; refine PL.op rfl (Rd.moveT rfl) ?_; refine PL.op rfl (Rd.moveP rfl) ?_; refine PL.er rfl (Er.strs [ByteArray.empty, (ByteArray.mk #[97]), (ByteArray.mk #[97, 98]), (ByteArray.mk #[98]), (ByteArray.mk #[49, 50]), (ByteArray.mk #[45, 55]), (ByteArray.mk #[126, 126]), (ByteArray.mk #[97, 32, 98]), (ByteArray.mk #[97, 98, 99, 100, 101, 102, 103, 104, 105, 106, 107, 108]), (ByteArray.mk #[32])] rfl rfl (by decide) rfl) ?_; refine PL.callM false [0] (w_S_reader_of N r4.2 ([ByteArray.empty, (ByteArray.mk #[97]), (ByteArray.mk #[97, 98]), (ByteArray.mk #[98]), (ByteArray.mk #[49, 50]), (ByteArray.mk #[45, 55]), (ByteArray.mk #[126, 126]), (ByteArray.mk #[97, 32, 98]), (ByteArray.mk #[97, 98, 99, 100, 101, 102, 103, 104, 105, 106, 107, 108]), (ByteArray.mk #[32])]) r15 h_16) rfl Tryz.call103 rfl ⟨.op rfl, .t _, trivial⟩ rfl ⟨⟨_, rfl, rfl, rfl, .mx ⟨.t _, .t _, trivial⟩⟩, trivial⟩ (fun h => by cases h) ?_; refine PL.nm (sA r15.1) [some ⟨.mx [sL r15.2.b, iA r15.2.p], 136, 0⟩, some ⟨.mx [iA (0 : Int), iA (0 : Int), sA ByteArray.empty], 39, 0⟩] rfl rfl ?_; refine PL.op rfl (Rd.build rfl rfl rfl rfl) ?_; refine PL.store rfl rfl rfl rfl rfl rfl rfl ?_; refine PL.nO [some ⟨.mx [sL r15.2.b, iA r15.2.p], 136, 0⟩, some ⟨.mx [iA r2.1, iA (0 : Int), sA r15.1], 39, 0⟩] rfl ?_; refine PL.nil ?_; refine thA_n ?_; refine PC.ret ?_; refine inA_r ?_; refine thA_r ?_; obtain rfl := some_in hh0; exact FinA.mk (r := .agg [iA (((I_Value.mk r2.1 (0 : Int) r15.1), r15.2).1.kind), iA (((I_Value.mk r2.1 (0 : Int) r15.1), r15.2).1.num), sA (((I_Value.mk r2.1 (0 : Int) r15.1), r15.2).1.text)]) (bl := [⟨.mx [sL (((I_Value.mk r2.1 (0 : Int) r15.1), r15.2).2.b), iA (((I_Value.mk r2.1 (0 : Int) r15.1), r15.2).2.p)], 136, 0⟩]) [some 0] (.inl rfl) rfl (rl := [.cell 4 39]) (.cellN rfl rfl rfl rfl .nil) rfl rfl rfl (.aggL ⟨.t _, .t _, .t _, trivial⟩) ⟨⟨_, rfl, rfl, rfl, .mx ⟨.t _, .t _, trivial⟩⟩, trivial⟩ ⟨rfl, rfl⟩
  refine PC.cond_true rfl h_7 ?_; refine PC.seq ?_; obtain ⟨r8, h_9, hh0⟩ := bind_some hh0; obtain ⟨n10, h_11, hh0⟩ := bind_some hh0; obtain ⟨r12, h_13, hh0⟩ := bind_some hh0; refine PC.region ?_; refine PL.op rfl (Rd.moveT rfl) ?_; (iterate 2 refine PL.op rfl (Rd.moveP rfl) ?_); refine PL.callM false [0] (w_S_reader_pick N r4.2 (250 : Int) r8 h_9) rfl Tryz.call67 rfl ⟨.op rfl, .t _, trivial⟩ rfl ⟨⟨_, rfl, rfl, rfl, .mx ⟨.t _, .t _, trivial⟩⟩, trivial⟩ (fun h => by cases h) ?_; refine PL.nm (iA r8.1) [some ⟨.mx [sL r8.2.b, iA r8.2.p], 136, 0⟩, some ⟨.mx [iA (0 : Int), iA (0 : Int), sA ByteArray.empty], 39, 0⟩] rfl rfl ?_; refine PL.op rfl (Rd.mulM rfl rfl h_11) ?_; refine PL.ef rfl (Ef.litM (α := Int) [(0 : Int), (1 : Int), (7 : Int), (-7 : Int), (79 : Int), (80 : Int), (4000 : Int), (200000 : Int), (999999 : Int), (-999999 : Int), n10] [_, _, _, _, _, _, _, _, _, _, _] rfl rfl (by decide) rfl rfl rfl rfl) ?_; refine PL.nm (.os 2 0 11) [some ⟨.mx [sL r8.2.b, iA r8.2.p], 136, 0⟩, some ⟨.mx [iA (0 : Int), iA (0 : Int), sA ByteArray.empty], 39, 0⟩, some ⟨.tr (eL [(0 : Int), (1 : Int), (7 : Int), (-7 : Int), (79 : Int), (80 : Int), (4000 : Int), (200000 : Int), (999999 : Int), (-999999 : Int), n10]), 3, 1⟩] rfl rfl ?_; refine PL.frz hs 2 3 [(20, sL [(0 : Int), (1 : Int), (7 : Int), (-7 : Int), (79 : Int), (80 : Int), (4000 : Int), (200000 : Int), (999999 : Int), (-999999 : Int), n10])] [some ⟨.mx [sL r8.2.b, iA r8.2.p], 136, 0⟩, some ⟨.mx [iA (0 : Int), iA (0 : Int), sA ByteArray.empty], 39, 0⟩, none] rfl rfl ⟨(.own rfl (by decide) rfl rfl), trivial⟩ ⟨⟨rfl, .inl rfl⟩, ⟨rfl, .inl rfl⟩, trivial⟩ ?_; refine PL.callM false [0] (w_S_reader_one N r8.2 [(0 : Int), (1 : Int), (7 : Int), (-7 : Int), (79 : Int), (80 : Int), (4000 : Int), (200000 : Int), (999999 : Int), (-999999 : Int), n10] r12 h_13) rfl Tryz.call53 rfl ⟨.op rfl, .t _, trivial⟩ rfl ⟨⟨_, rfl, rfl, rfl, .mx ⟨.t _, .t _, trivial⟩⟩, trivial⟩ (fun h => by cases h) ?_; refine PL.nm (iA r12.1) [some ⟨.mx [sL r12.2.b, iA r12.2.p], 136, 0⟩, some ⟨.mx [iA (0 : Int), iA (0 : Int), sA ByteArray.empty], 39, 0⟩, none] rfl rfl ?_; refine PL.op rfl (Rd.build rfl rfl rfl rfl) ?_; refine PL.store rfl rfl rfl rfl rfl rfl rfl ?_; refine PL.nO [some ⟨.mx [sL r12.2.b, iA r12.2.p], 136, 0⟩, some ⟨.mx [iA r2.1, iA r12.1, sA ByteArray.empty], 39, 0⟩, none] rfl ?_; refine PL.nil ?_; refine thA_n ?_; refine PC.ret ?_; refine inA_r ?_; refine thA_r ?_; obtain rfl := some_in hh0; exact FinA.mk (r := .agg [iA (((I_Value.mk r2.1 r12.1 ByteArray.empty), r12.2).1.kind), iA (((I_Value.mk r2.1 r12.1 ByteArray.empty), r12.2).1.num), sA (((I_Value.mk r2.1 r12.1 ByteArray.empty), r12.2).1.text)]) (bl := [⟨.mx [sL (((I_Value.mk r2.1 r12.1 ByteArray.empty), r12.2).2.b), iA (((I_Value.mk r2.1 r12.1 ByteArray.empty), r12.2).2.p)], 136, 0⟩]) [some 0] (.inl rfl) rfl (rl := [.cell 4 39]) (.cellN rfl rfl rfl rfl .nil) rfl rfl rfl (.aggL ⟨.t _, .t _, .t _, trivial⟩) ⟨⟨_, rfl, rfl, rfl, .mx ⟨.t _, .t _, trivial⟩⟩, trivial⟩ ⟨rfl, rfl⟩
def m_S_randomColumn (N : Nat) (p_r : S_reader) : Option (I_Column × S_reader) :=
  (m_S_reader_pick N p_r (2 : Int)).bind fun r1 =>
  (chk ((1 : Int) + r1.1)).bind fun n3 =>
  (m_S_randomValue N r1.2 n3).bind fun r5 =>
  some ((I_Column.mk n3 r5.1), r5.2)
theorem w_S_randomColumn (N : Nat) (p_r : S_reader) (r : I_Column × S_reader) (hh0 : m_S_randomColumn N p_r = some r) : FnX Tryz.prog 146 [⟨.mx [sL p_r.b, iA p_r.p], 136, 0⟩] [.op 0 0] (RE (.agg [iA r.1.kind, iA r.1.default.kind, iA r.1.default.num, sA r.1.default.text]) [⟨.mx [sL r.2.b, iA r.2.p], 136, 0⟩]) := by
  unfold m_S_randomColumn at hh0; refine FnX.mk Tryz.func146 rfl rfl ?_; intro s hs; refine PC.seq ?_; refine PC.region ?_; refine PL.ef rfl (Ef.alloc rfl rfl) ?_; refine PL.nm (.op 1 0) [some ⟨.mx [sL p_r.b, iA p_r.p], 136, 0⟩, some ⟨.mx [iA (0 : Int), iA (0 : Int), iA (0 : Int), sA ByteArray.empty], 125, 0⟩] rfl rfl ?_; refine PL.nil ?_; refine thA_n ?_; refine PC.seq ?_; obtain ⟨r1, h_2, hh0⟩ := bind_some hh0; obtain ⟨n3, h_4, hh0⟩ := bind_some hh0; refine PC.region ?_; refine PL.op rfl (Rd.moveP rfl) ?_; refine PL.callM false [0] (w_S_reader_pick N p_r (2 : Int) r1 h_2) rfl Tryz.call67 rfl ⟨.op rfl, .t _, trivial⟩ rfl ⟨⟨_, rfl, rfl, rfl, .mx ⟨.t _, .t _, trivial⟩⟩, trivial⟩ (fun h => by cases h) ?_; refine PL.nm (iA r1.1) [some ⟨.mx [sL r1.2.b, iA r1.2.p], 136, 0⟩, some ⟨.mx [iA (0 : Int), iA (0 : Int), iA (0 : Int), sA ByteArray.empty], 125, 0⟩] rfl rfl ?_; refine PL.op rfl (Rd.addM rfl rfl h_4) ?_; refine PL.op rfl (Rd.asnT rfl) ?_; refine PL.nil ?_; refine thA_n ?_; refine PC.seq ?_; obtain ⟨r5, h_6, hh0⟩ := bind_some hh0; refine PC.region ?_; refine PL.op rfl (Rd.moveT rfl) ?_; refine PL.op rfl (Rd.moveP rfl) ?_; refine PL.op rfl (Rd.moveT rfl) ?_; refine PL.callM false [0] (w_S_randomValue N r1.2 n3 r5 h_6) rfl Tryz.call102 rfl ⟨.op rfl, .t _, trivial⟩ rfl ⟨⟨_, rfl, rfl, rfl, .mx ⟨.t _, .t _, trivial⟩⟩, trivial⟩ (fun h => by cases h) ?_; refine PL.nm (.agg [iA r5.1.kind, iA r5.1.num, sA r5.1.text]) [some ⟨.mx [sL r5.2.b, iA r5.2.p], 136, 0⟩, some ⟨.mx [iA (0 : Int), iA (0 : Int), iA (0 : Int), sA ByteArray.empty], 125, 0⟩] rfl rfl ?_; refine PL.op rfl (Rd.build rfl rfl rfl rfl) ?_; refine PL.store rfl rfl rfl rfl rfl rfl rfl ?_; refine PL.nO [some ⟨.mx [sL r5.2.b, iA r5.2.p], 136, 0⟩, some ⟨.mx [iA n3, iA r5.1.kind, iA r5.1.num, sA r5.1.text], 125, 0⟩] rfl ?_; refine PL.nil ?_; refine thA_n ?_; refine PC.ret ?_; obtain rfl := some_in hh0; exact FinA.mk (r := .agg [iA (((I_Column.mk n3 r5.1), r5.2).1.kind), iA (((I_Column.mk n3 r5.1), r5.2).1.default.kind), iA (((I_Column.mk n3 r5.1), r5.2).1.default.num), sA (((I_Column.mk n3 r5.1), r5.2).1.default.text)]) (bl := [⟨.mx [sL (((I_Column.mk n3 r5.1), r5.2).2.b), iA (((I_Column.mk n3 r5.1), r5.2).2.p)], 136, 0⟩]) [some 0] (.inl rfl) rfl (rl := [.cell 2 125]) (.cellN rfl rfl rfl rfl .nil) rfl rfl rfl (.aggL ⟨.t _, .t _, .t _, .t _, trivial⟩) ⟨⟨_, rfl, rfl, rfl, .mx ⟨.t _, .t _, trivial⟩⟩, trivial⟩ ⟨rfl, rfl⟩
def m_S_randomFormat_k1 (N : Nat) (v14 : (List UInt8)) (v15 : Int) (v16 : (List I_Column)) : Option ((List I_Column) × S_reader) :=
  some (v16, (S_reader.mk v14 v15))
def m_S_randomFormat_b1 (N : Nat) (i3 : Int) (v4 : (List UInt8)) (v5 : Int) (v6 : (List I_Column)) : Option ((Int × (List UInt8) × Int × (List I_Column)) ⊕ ((List UInt8) × Int × (List I_Column))) :=
  cond (decide ((0 : Int) < i3))
    ((m_S_randomColumn N (S_reader.mk v4 v5)).bind fun r23 =>
    (appM 40 v6 [r23.1]).bind fun xs25 =>
    (chk (i3 - (1 : Int))).bind fun n27 =>
    some (.inl (n27, r23.2.b, r23.2.p, xs25)))
    (some (.inr (v4, v5, v6)))
def m_S_randomFormat (N : Nat) (p_r : S_reader) : Option ((List I_Column) × S_reader) :=
  (m_S_reader_one N p_r [(2 : Int), (3 : Int), (1 : Int), (4 : Int), (5 : Int)]).bind fun r1 =>
  (loopM (β := (List UInt8) × Int × (List I_Column)) (fun s : Int × (List UInt8) × Int × (List I_Column) => m_S_randomFormat_b1 N s.1 s.2.1 s.2.2.1 s.2.2.2) N (r1.1, r1.2.b, r1.2.p, ([] : List I_Column))).bind fun e =>
  m_S_randomFormat_k1 N e.1 e.2.1 e.2.2
theorem w_S_randomFormat (N : Nat) (p_r : S_reader) (r : (List I_Column) × S_reader) (hh0 : m_S_randomFormat N p_r = some r) : FnX Tryz.prog 117 [⟨.mx [sL p_r.b, iA p_r.p], 136, 0⟩] [.op 0 0] (RE (.os 1 0 r.1.length) [⟨.mx [sL r.2.b, iA r.2.p], 136, 0⟩, ⟨.tr (eL r.1), 125, 4⟩]) := by
  unfold m_S_randomFormat at hh0; refine FnX.mk Tryz.func117 rfl rfl ?_; intro s hs; refine PC.seq ?_; refine PC.region ?_; refine PL.op rfl (Rd.asnT rfl) ?_; refine PL.nil ?_; refine thA_n ?_; refine PC.seq ?_; refine PC.region ?_; refine PL.ef rfl (Ef.lit0M I_Column) ?_; refine PL.nm (.os 1 0 0) [some ⟨.mx [sL p_r.b, iA p_r.p], 136, 0⟩, some ⟨.tr (eL ([] : List I_Column)), 125, 4⟩] rfl rfl ?_; refine PL.op rfl (Rd.asnO rfl) ?_; refine PL.nil ?_; refine thA_n ?_; (iterate 2 refine PC.seq ?_); obtain ⟨r1, h_2, hh0⟩ := bind_some hh0; refine PC.region ?_; refine PL.op rfl (Rd.moveP rfl) ?_; refine PL.er rfl (Er.ints [(2 : Int), (3 : Int), (1 : Int), (4 : Int), (5 : Int)] rfl rfl (by decide) rfl) ?_; refine PL.callM false [0] (w_S_reader_one N p_r [(2 : Int), (3 : Int), (1 : Int), (4 : Int), (5 : Int)] r1 h_2) rfl Tryz.call53 rfl ⟨.op rfl, .t _, trivial⟩ rfl ⟨⟨_, rfl, rfl, rfl, .mx ⟨.t _, .t _, trivial⟩⟩, trivial⟩ (fun h => by cases h) ?_; refine PL.nm (iA r1.1) [some ⟨.mx [sL r1.2.b, iA r1.2.p], 136, 0⟩, some ⟨.tr (eL ([] : List I_Column)), 125, 4⟩] rfl rfl ?_; refine PL.op rfl (Rd.asnT rfl) ?_; refine PL.nil ?_; refine thA_n ?_; obtain ⟨o17, h_18, hh0⟩ := bind_some hh0; refine PC.cutE hs (fun x : (List UInt8) × Int × (List I_Column) => [(3, .os 1 0 x.2.2.length)]) (fun x => [⟨.mx [sL x.1, iA x.2.1], 136, 0⟩, ⟨.tr (eL x.2.2), 125, 4⟩]) (fun x => m_S_randomFormat_k1 N x.1 x.2.1 x.2.2 = some r) ?_ ?_
  · refine PC.block ?_; refine PC.loop hs (fun x : Nat × (Int × (List UInt8) × Int × (List I_Column)) => [(0, .op 0 0), (3, .os 1 0 x.2.2.2.2.length), (4, iA x.2.1)]) (fun x => [⟨.mx [sL x.2.2.1, iA x.2.2.2.1], 136, 0⟩, ⟨.tr (eL x.2.2.2.2), 125, 4⟩]) (fun x => loopM (β := (List UInt8) × Int × (List I_Column)) (fun s : Int × (List UInt8) × Int × (List I_Column) => m_S_randomFormat_b1 N s.1 s.2.1 s.2.2.1 s.2.2.2) x.1 x.2 = some o17) (fun x => x.1) (N, (r1.1, r1.2.b, r1.2.p, ([] : List I_Column))) [some 0, some 1] ⟨rfl, rfl, ⟨⟨_, rfl, rfl, rfl, .mx ⟨.t _, .t _, trivial⟩⟩, ⟨_, rfl, rfl, rfl, .tr _⟩, trivial⟩, ⟨.op rfl, .os rfl, .t _, trivial⟩⟩ h_18 ?_
    rintro ⟨f19_, i3, v4, v5, v6⟩ h_21
    obtain ⟨f19, y20, rfl, hh1, kk1⟩ := loopM_some h_21
    replace hh1 : m_S_randomFormat_b1 N i3 v4 v5 v6 = some y20 := hh1
    unfold m_S_randomFormat_b1 at hh1; (iterate 2 refine PC.seq ?_); refine PC.region ?_; refine PL.op rfl (Rd.moveT rfl) ?_; refine PL.op rfl (Rd.gtr rfl rfl) ?_; refine PL.nil ?_; refine thA_n ?_; rcases cond_some hh1 with ⟨h_22, hh1⟩ | ⟨h_22, hh1⟩; rotate_left
    · refine PC.cond_false rfl h_22 ?_; refine PC.exit ?_; (iterate 2 refine thA_e ?_); refine inA_eq rfl ?_; refine thA_n ?_; obtain rfl := some_in hh1; obtain rfl : ((v4, v5, v6) : (List UInt8) × Int × (List I_Column)) = o17 := kk1; exact ⟨(v4, v5, v6), hh0, [some 0, some 1], ⟨rfl, rfl, ⟨⟨_, rfl, rfl, rfl, .mx ⟨.t _, .t _, trivial⟩⟩, ⟨_, rfl, rfl, rfl, .tr _⟩, trivial⟩, ⟨.os rfl, trivial⟩⟩⟩
    refine PC.cond_true rfl h_22 ?_; refine PC.skip ?_; refine thA_n ?_; refine PC.seq ?_; refine PC.block ?_; obtain ⟨r23, h_24, hh1⟩ := bind_some hh1; obtain ⟨xs25, h_26, hh1⟩ := bind_some hh1; refine PC.region ?_; refine PL.op rfl (Rd.moveO rfl) ?_; refine PL.op rfl (Rd.moveP rfl) ?_; refine PL.callM false [0] (w_S_randomColumn N (S_reader.mk v4 v5) r23 h_24) rfl Tryz.call146 rfl ⟨.op rfl, trivial⟩ rfl ⟨⟨_, rfl, rfl, rfl, .mx ⟨.t _, .t _, trivial⟩⟩, trivial⟩ (fun h => by cases h) ?_; refine PL.nm (.agg [iA r23.1.kind, iA r23.1.default.kind, iA r23.1.default.num, sA r23.1.default.text]) [some ⟨.mx [sL r23.2.b, iA r23.2.p], 136, 0⟩, some ⟨.tr (eL v6), 125, 4⟩] rfl rfl ?_; refine PL.ef rfl (Ef.litM (α := I_Column) [r23.1] [_] rfl rfl (by decide) rfl rfl rfl rfl) ?_; refine PL.nm (.os 2 0 1) [some ⟨.mx [sL r23.2.b, iA r23.2.p], 136, 0⟩, some ⟨.tr (eL v6), 125, 4⟩, some ⟨.tr (eL [r23.1]), 125, 4⟩] rfl rfl ?_; refine PL.apM hs rfl rfl rfl rfl (SrcA.ownE rfl rfl rfl) rfl rfl rfl rfl h_26 ?_; refine PL.nm (.os 3 0 xs25.length) [some ⟨.mx [sL r23.2.b, iA r23.2.p], 136, 0⟩, none, some ⟨.tr (eL [r23.1]), 125, 4⟩, some ⟨.tr (eL xs25), 125, 4⟩] rfl rfl ?_; refine PL.op rfl (Rd.asnO rfl) ?_; refine PL.nil ?_; refine inA_n ?_; refine thA_n ?_; obtain ⟨n27, h_28, hh1⟩ := bind_some hh1; refine PC.region ?_; refine PL.op rfl (Rd.moveT rfl) ?_; refine PL.op rfl (Rd.subM rfl rfl h_28) ?_; refine PL.op rfl (Rd.asnT rfl) ?_; refine PL.nil ?_; obtain rfl := some_in hh1; refine thA_n ?_; exact ⟨(f19, (n27, r23.2.b, r23.2.p, xs25)), Nat.lt_succ_self _, kk1, [some 0, some 3], ⟨rfl, rfl, ⟨⟨_, rfl, rfl, rfl, .mx ⟨.t _, .t _, trivial⟩⟩, ⟨_, rfl, rfl, rfl, .tr _⟩, trivial⟩, ⟨.op rfl, .os rfl, .t _, trivial⟩⟩⟩
  clear hh0
  rintro ⟨v14, v15, v16⟩ hh0
  replace hh0 : m_S_randomFormat_k1 N v14 v15 v16 = some r := hh0
  unfold m_S_randomFormat_k1 at hh0; refine thA_n ?_; refine PC.seq ?_; refine PC.region ?_; refine PL.op rfl (Rd.moveO rfl) ?_; refine PL.op rfl (Rd.asnO rfl) ?_; refine PL.nil ?_; refine thA_n ?_; refine PC.ret ?_; obtain rfl := some_in hh0; exact FinA.mk (r := .os 1 0 (((v16, (S_reader.mk v14 v15)).1).length)) (bl := [⟨.mx [sL ((v16, (S_reader.mk v14 v15)).2.b), iA ((v16, (S_reader.mk v14 v15)).2.p)], 136, 0⟩, ⟨.tr (eL ((v16, (S_reader.mk v14 v15)).1)), 125, 4⟩]) [some 0, some 1] (.inl rfl) rfl (rl := [.tmp 2]) (.tmp .nil) rfl rfl rfl (.os rfl) ⟨⟨_, rfl, rfl, rfl, .mx ⟨.t _, .t _, trivial⟩⟩, ⟨_, rfl, rfl, rfl, .tr _⟩, trivial⟩ ⟨rfl, rfl⟩
def m_S_randomChange_k1 (N : Nat) (v26 : (List UInt8)) (v27 : Int) : Option (I_Change × S_reader) :=
  some ((I_Change.mk (2 : Int) (0 : Int) (I_Column.mk (0 : Int) (I_Value.mk (0 : Int) (0 : Int) ByteArray.empty))), (S_reader.mk v26 v27))
def m_S_randomChange_b1 (N : Nat) (p_f : (List I_Column)) (x1 : Int) (v2 : (List UInt8)) (v3 : Int) : Option ((Int × (List UInt8) × Int) ⊕ (((List UInt8) × Int) ⊕ (I_Change × S_reader))) :=
  cond (decide (x1 < (6 : Int)))
    ((m_S_reader_pick N (S_reader.mk v2 v3) (3 : Int)).bind fun r34 =>
    (chk ((1 : Int) + r34.1)).bind fun n36 =>
    (chk ((p_f.length : Int) + (1 : Int))).bind fun n38 =>
    (m_S_reader_pick N r34.2 n38).bind fun r40 =>
    cond (decide (n36 = (1 : Int)))
      ((m_S_randomColumn N r40.2).bind fun r43 =>
      (m_S_change N p_f (I_Change.mk n36 r40.1 r43.1)).bind fun r45 =>
      cond r45.2
        (some (.inr (.inr ((I_Change.mk n36 r40.1 r43.1), r43.2))))
        ((chk (x1 + (1 : Int))).bind fun n48 =>
        some (.inl (n48, r43.2.b, r43.2.p))))
      ((m_S_change N p_f (I_Change.mk n36 r40.1 (I_Column.mk (0 : Int) (I_Value.mk (0 : Int) (0 : Int) ByteArray.empty)))).bind fun r50 =>
      cond r50.2
        (some (.inr (.inr ((I_Change.mk n36 r40.1 (I_Column.mk (0 : Int) (I_Value.mk (0 : Int) (0 : Int) ByteArray.empty))), r40.2))))
        ((chk (x1 + (1 : Int))).bind fun n53 =>
        some (.inl (n53, r40.2.b, r40.2.p)))))
    (some (.inr (.inl (v2, v3))))
def m_S_randomChange (N : Nat) (p_r : S_reader) (p_f : (List I_Column)) : Option (I_Change × S_reader) :=
  (loopM (β := ((List UInt8) × Int) ⊕ (I_Change × S_reader)) (fun s : Int × (List UInt8) × Int => m_S_randomChange_b1 N p_f s.1 s.2.1 s.2.2) N ((0 : Int), p_r.b, p_r.p)).bind fun o => match o with
  | .inl e =>
    m_S_randomChange_k1 N e.1 e.2
  | .inr v =>
    some v
theorem w_S_randomChange (N : Nat) (p_r : S_reader) (p_f : (List I_Column)) (r : I_Change × S_reader) (hh0 : m_S_randomChange N p_r p_f = some r) : FnX Tryz.prog 118 [⟨.mx [sL p_r.b, iA p_r.p], 136, 0⟩] [.op 0 0, sL p_f] (RE (.agg [iA r.1.kind, iA r.1.at_, iA r.1.column.kind, iA r.1.column.default.kind, iA r.1.column.default.num, sA r.1.column.default.text]) [⟨.mx [sL r.2.b, iA r.2.p], 136, 0⟩]) := by
  unfold m_S_randomChange at hh0; refine FnX.mk Tryz.func118 rfl rfl ?_; intro s hs; refine PC.seq ?_; refine PC.region ?_; refine PL.ef rfl (Ef.alloc rfl rfl) ?_; refine PL.nm (.op 1 0) [some ⟨.mx [sL p_r.b, iA p_r.p], 136, 0⟩, some ⟨.mx [iA (0 : Int), iA (0 : Int), iA (0 : Int), iA (0 : Int), iA (0 : Int), sA ByteArray.empty], 128, 0⟩] rfl rfl ?_; refine PL.nil ?_; refine thA_n ?_; (iterate 2 refine PC.seq ?_); refine PC.region ?_; refine PL.op rfl (Rd.asnT rfl) ?_; refine PL.nil ?_; refine thA_n ?_; obtain ⟨o28, h_29, hh0⟩ := bind_some hh0; refine PC.cutE hs (fun x : (List UInt8) × Int => [(4, .op 1 0)]) (fun x => [⟨.mx [sL x.1, iA x.2], 136, 0⟩, ⟨.mx [iA (0 : Int), iA (0 : Int), iA (0 : Int), iA (0 : Int), iA (0 : Int), sA ByteArray.empty], 128, 0⟩]) (fun x => m_S_randomChange_k1 N x.1 x.2 = some r) ?_ ?_
  · refine PC.block ?_; refine PC.loop hs (fun x : Nat × (Int × (List UInt8) × Int) => [(0, .op 0 0), (1, sL p_f), (4, .op 1 0), (5, iA x.2.1)]) (fun x => [⟨.mx [sL x.2.2.1, iA x.2.2.2], 136, 0⟩, ⟨.mx [iA (0 : Int), iA (0 : Int), iA (0 : Int), iA (0 : Int), iA (0 : Int), sA ByteArray.empty], 128, 0⟩]) (fun x => loopM (β := ((List UInt8) × Int) ⊕ (I_Change × S_reader)) (fun s : Int × (List UInt8) × Int => m_S_randomChange_b1 N p_f s.1 s.2.1 s.2.2) x.1 x.2 = some o28) (fun x => x.1) (N, ((0 : Int), p_r.b, p_r.p)) [some 0, some 1] ⟨rfl, rfl, ⟨⟨_, rfl, rfl, rfl, .mx ⟨.t _, .t _, trivial⟩⟩, ⟨_, rfl, rfl, rfl, .mx ⟨.t _, .t _, .t _, .t _, .t _, .t _, trivial⟩⟩, trivial⟩, ⟨.op rfl, .t _, .op rfl, .t _, trivial⟩⟩ h_29 ?_
    rintro ⟨f30_, x1, v2, v3⟩ h_32
    obtain ⟨f30, y31, rfl, hh1, kk1⟩ := loopM_some h_32
    replace hh1 : m_S_randomChange_b1 N p_f x1 v2 v3 = some y31 := hh1
    unfold m_S_randomChange_b1 at hh1; (iterate 2 refine PC.seq ?_); refine PC.region ?_; refine PL.op rfl (Rd.moveT rfl) ?_; refine PL.op rfl (Rd.lss rfl rfl) ?_; refine PL.nil ?_; refine thA_n ?_; rcases cond_some hh1 with ⟨h_33, hh1⟩ | ⟨h_33, hh1⟩; rotate_left
    · refine PC.cond_false rfl h_33 ?_; refine PC.exit ?_; (iterate 2 refine thA_e ?_); refine inA_eq rfl ?_; refine thA_n ?_; obtain rfl := some_in hh1; obtain rfl : (.inl (v2, v3) : ((List UInt8) × Int) ⊕ (I_Change × S_reader)) = o28 := kk1; exact ⟨(v2, v3), hh0, [some 0, some 1], ⟨rfl, rfl, ⟨⟨_, rfl, rfl, rfl, .mx ⟨.t _, .t _, trivial⟩⟩, ⟨_, rfl, rfl, rfl, .mx ⟨.t _, .t _, .t _, .t _, .t _, .t _, trivial⟩⟩, trivial⟩, ⟨.op rfl, trivial⟩⟩⟩
    refine PC.cond_true rfl h_33 ?_; refine PC.skip ?_; refine thA_n ?_; refine PC.seq ?_; refine PC.block ?_; refine PC.seq ?_; obtain ⟨r34, h_35, hh1⟩ := bind_some hh1; obtain ⟨n36, h_37, hh1⟩ := bind_some hh1; obtain ⟨n38, h_39, hh1⟩ := bind_some hh1; obtain ⟨r40, h_41, hh1⟩ := bind_some hh1; refine PC.region ?_; refine PL.op rfl (Rd.moveP rfl) ?_; refine PL.callM false [0] (w_S_reader_pick N (S_reader.mk v2 v3) (3 : Int) r34 h_35) rfl Tryz.call67 rfl ⟨.op rfl, .t _, trivial⟩ rfl ⟨⟨_, rfl, rfl, rfl, .mx ⟨.t _, .t _, trivial⟩⟩, trivial⟩ (fun h => by cases h) ?_; refine PL.nm (iA r34.1) [some ⟨.mx [sL r34.2.b, iA r34.2.p], 136, 0⟩, some ⟨.mx [iA (0 : Int), iA (0 : Int), iA (0 : Int), iA (0 : Int), iA (0 : Int), sA ByteArray.empty], 128, 0⟩] rfl rfl ?_; refine PL.op rfl (Rd.addM rfl rfl h_37) ?_; refine PL.op rfl (Rd.moveP rfl) ?_; refine PL.op rfl (Rd.moveT rfl) ?_; refine PL.op rfl (Rd.lenT rfl) ?_; refine PL.op rfl (Rd.addM rfl rfl h_39) ?_; refine PL.callM false [0] (w_S_reader_pick N r34.2 n38 r40 h_41) rfl Tryz.call67 rfl ⟨.op rfl, .t _, trivial⟩ rfl ⟨⟨_, rfl, rfl, rfl, .mx ⟨.t _, .t _, trivial⟩⟩, trivial⟩ (fun h => by cases h) ?_; refine PL.nm (iA r40.1) [some ⟨.mx [sL r40.2.b, iA r40.2.p], 136, 0⟩, some ⟨.mx [iA (0 : Int), iA (0 : Int), iA (0 : Int), iA (0 : Int), iA (0 : Int), sA ByteArray.empty], 128, 0⟩] rfl rfl ?_; refine PL.op rfl (Rd.build rfl rfl rfl rfl) ?_; refine PL.ef rfl (Ef.alloc rfl rfl) ?_; refine PL.nm (.op 2 0) [some ⟨.mx [sL r40.2.b, iA r40.2.p], 136, 0⟩, some ⟨.mx [iA (0 : Int), iA (0 : Int), iA (0 : Int), iA (0 : Int), iA (0 : Int), sA ByteArray.empty], 128, 0⟩, some ⟨.mx [iA (0 : Int), iA (0 : Int), iA (0 : Int), iA (0 : Int), iA (0 : Int), sA ByteArray.empty], 128, 0⟩] rfl rfl ?_; refine PL.store rfl rfl rfl rfl rfl rfl rfl ?_; refine PL.nO [some ⟨.mx [sL r40.2.b, iA r40.2.p], 136, 0⟩, some ⟨.mx [iA (0 : Int), iA (0 : Int), iA (0 : Int), iA (0 : Int), iA (0 : Int), sA ByteArray.empty], 128, 0⟩, some ⟨.mx [iA n36, iA r40.1, iA (0 : Int), iA (0 : Int), iA (0 : Int), sA ByteArray.empty], 128, 0⟩] rfl ?_; refine PL.nil ?_; refine thA_n ?_; (iterate 2 refine PC.seq ?_); refine PC.region ?_; refine PL.op rfl (Rd.fieldO rfl rfl) ?_; refine PL.op rfl (Rd.loadO rfl rfl rfl) ?_; refine PL.op rfl (Rd.eql rfl rfl) ?_; refine PL.nil ?_; refine thA_n ?_; rcases cond_some hh1 with ⟨h_42, hh1⟩ | ⟨h_42, hh1⟩; rotate_left
    · refine PC.cond_false rfl h_42 ?_; refine PC.skip ?_; refine thA_n ?_; refine PC.seq ?_; obtain ⟨r50, h_51, hh1⟩ := bind_some hh1; refine PC.region ?_; refine PL.op rfl (Rd.moveT rfl) ?_; refine PL.op rfl (Rd.loadBox rfl rfl rfl) ?_; refine PL.callM false [] (w_S_change N p_f (I_Change.mk n36 r40.1 (I_Column.mk (0 : Int) (I_Value.mk (0 : Int) (0 : Int) ByteArray.empty))) r50 h_51) rfl Tryz.call110 rfl ⟨.t _, .aggL ⟨.t _, .t _, .t _, .t _, .t _, .t _, trivial⟩, trivial⟩ rfl trivial (fun h => by cases h) ?_; refine PL.nm (.tup [.os 3 0 r50.1.length, bA r50.2]) [some ⟨.mx [sL r40.2.b, iA r40.2.p], 136, 0⟩, some ⟨.mx [iA (0 : Int), iA (0 : Int), iA (0 : Int), iA (0 : Int), iA (0 : Int), sA ByteArray.empty], 128, 0⟩, some ⟨.mx [iA n36, iA r40.1, iA (0 : Int), iA (0 : Int), iA (0 : Int), sA ByteArray.empty], 128, 0⟩, some ⟨.tr (eL r50.1), 125, 4⟩] rfl rfl ?_; refine PL.op rfl (Rd.moveU rfl) ?_; (iterate 2 refine PL.op rfl (Rd.extract rfl rfl) ?_); refine PL.op rfl (Rd.asnO rfl) ?_; refine PL.op rfl (Rd.asnT rfl) ?_; refine PL.nil ?_; refine thA_n ?_; refine PC.seq ?_; refine PC.region ?_; refine PL.op rfl (Rd.moveT rfl) ?_; refine PL.nil ?_; refine thA_n ?_; rcases cond_some hh1 with ⟨h_52, hh1⟩ | ⟨h_52, hh1⟩; rotate_left
      · refine PC.cond_false rfl h_52 ?_; refine PC.skip ?_; refine inA_n ?_; refine thA_n ?_; obtain ⟨n53, h_54, hh1⟩ := bind_some hh1; refine PC.region ?_; refine PL.op rfl (Rd.moveT rfl) ?_; refine PL.op rfl (Rd.addM rfl rfl h_54) ?_; refine PL.op rfl (Rd.asnT rfl) ?_; refine PL.nil ?_; obtain rfl := some_in hh1; refine thA_n ?_; exact ⟨(f30, (n53, r40.2.b, r40.2.p)), Nat.lt_succ_self _, kk1, [some 0, some 1], ⟨rfl, rfl, ⟨⟨_, rfl, rfl, rfl, .mx ⟨.t _, .t _, trivial⟩⟩, ⟨_, rfl, rfl, rfl, .mx ⟨.t _, .t _, .t _, .t _, .t _, .t _, trivial⟩⟩, trivial⟩, ⟨.op rfl, .t _, .op rfl, .t _, trivial⟩⟩⟩
      refine PC.cond_true rfl h_52 ?_; refine PC.seq ?_; refine PC.region ?_; refine PL.op rfl (Rd.loadBox rfl rfl rfl) ?_; refine PL.store rfl rfl rfl rfl rfl rfl rfl ?_; refine PL.nO [some ⟨.mx [sL r40.2.b, iA r40.2.p], 136, 0⟩, some ⟨.mx [iA n36, iA r40.1, iA (0 : Int), iA (0 : Int), iA (0 : Int), sA ByteArray.empty], 128, 0⟩, some ⟨.mx [iA n36, iA r40.1, iA (0 : Int), iA (0 : Int), iA (0 : Int), sA ByteArray.empty], 128, 0⟩, some ⟨.tr (eL r50.1), 125, 4⟩] rfl ?_; refine PL.nil ?_; refine thA_n ?_; refine PC.ret ?_; refine inA_r ?_; (iterate 2 refine thA_r ?_); refine inA_r ?_; refine thA_r ?_; obtain rfl := some_in hh1; obtain rfl : (.inr ((I_Change.mk n36 r40.1 (I_Column.mk (0 : Int) (I_Value.mk (0 : Int) (0 : Int) ByteArray.empty))), r40.2) : ((List UInt8) × Int) ⊕ (I_Change × S_reader)) = o28 := kk1; refine thA_r ?_; obtain rfl := some_in hh0; exact FinA.mk (r := .agg [iA (((I_Change.mk n36 r40.1 (I_Column.mk (0 : Int) (I_Value.mk (0 : Int) (0 : Int) ByteArray.empty))), r40.2).1.kind), iA (((I_Change.mk n36 r40.1 (I_Column.mk (0 : Int) (I_Value.mk (0 : Int) (0 : Int) ByteArray.empty))), r40.2).1.at_), iA (((I_Change.mk n36 r40.1 (I_Column.mk (0 : Int) (I_Value.mk (0 : Int) (0 : Int) ByteArray.empty))), r40.2).1.column.kind), iA (((I_Change.mk n36 r40.1 (I_Column.mk (0 : Int) (I_Value.mk (0 : Int) (0 : Int) ByteArray.empty))), r40.2).1.column.default.kind), iA (((I_Change.mk n36 r40.1 (I_Column.mk (0 : Int) (I_Value.mk (0 : Int) (0 : Int) ByteArray.empty))), r40.2).1.column.default.num), sA (((I_Change.mk n36 r40.1 (I_Column.mk (0 : Int) (I_Value.mk (0 : Int) (0 : Int) ByteArray.empty))), r40.2).1.column.default.text)]) (bl := [⟨.mx [sL (((I_Change.mk n36 r40.1 (I_Column.mk (0 : Int) (I_Value.mk (0 : Int) (0 : Int) ByteArray.empty))), r40.2).2.b), iA (((I_Change.mk n36 r40.1 (I_Column.mk (0 : Int) (I_Value.mk (0 : Int) (0 : Int) ByteArray.empty))), r40.2).2.p)], 136, 0⟩]) [some 0] (.inl rfl) rfl (rl := [.cell 4 128]) (.cellN rfl rfl rfl rfl .nil) rfl rfl rfl (.aggL ⟨.t _, .t _, .t _, .t _, .t _, .t _, trivial⟩) ⟨⟨_, rfl, rfl, rfl, .mx ⟨.t _, .t _, trivial⟩⟩, trivial⟩ ⟨rfl, rfl⟩
    refine PC.cond_true rfl h_42 ?_; obtain ⟨r43, h_44, hh1⟩ := bind_some hh1; refine PC.region ?_; refine PL.op rfl (Rd.moveP rfl) ?_; refine PL.callM false [0] (w_S_randomColumn N r40.2 r43 h_44) rfl Tryz.call146 rfl ⟨.op rfl, trivial⟩ rfl ⟨⟨_, rfl, rfl, rfl, .mx ⟨.t _, .t _, trivial⟩⟩, trivial⟩ (fun h => by cases h) ?_; refine PL.nm (.agg [iA r43.1.kind, iA r43.1.default.kind, iA r43.1.default.num, sA r43.1.default.text]) [some ⟨.mx [sL r43.2.b, iA r43.2.p], 136, 0⟩, some ⟨.mx [iA (0 : Int), iA (0 : Int), iA (0 : Int), iA (0 : Int), iA (0 : Int), sA ByteArray.empty], 128, 0⟩, some ⟨.mx [iA n36, iA r40.1, iA (0 : Int), iA (0 : Int), iA (0 : Int), sA ByteArray.empty], 128, 0⟩] rfl rfl ?_; refine PL.op rfl (Rd.fieldO rfl rfl) ?_; refine PL.store rfl rfl rfl rfl rfl rfl rfl ?_; refine PL.nO [some ⟨.mx [sL r43.2.b, iA r43.2.p], 136, 0⟩, some ⟨.mx [iA (0 : Int), iA (0 : Int), iA (0 : Int), iA (0 : Int), iA (0 : Int), sA ByteArray.empty], 128, 0⟩, some ⟨.mx [iA n36, iA r40.1, iA r43.1.kind, iA r43.1.default.kind, iA r43.1.default.num, sA r43.1.default.text], 128, 0⟩] rfl ?_; refine PL.nil ?_; refine thA_n ?_; refine PC.seq ?_; obtain ⟨r45, h_46, hh1⟩ := bind_some hh1; refine PC.region ?_; refine PL.op rfl (Rd.moveT rfl) ?_; refine PL.op rfl (Rd.loadBox rfl rfl rfl) ?_; refine PL.callM false [] (w_S_change N p_f (I_Change.mk n36 r40.1 r43.1) r45 h_46) rfl Tryz.call110 rfl ⟨.t _, .aggL ⟨.t _, .t _, .t _, .t _, .t _, .t _, trivial⟩, trivial⟩ rfl trivial (fun h => by cases h) ?_; refine PL.nm (.tup [.os 3 0 r45.1.length, bA r45.2]) [some ⟨.mx [sL r43.2.b, iA r43.2.p], 136, 0⟩, some ⟨.mx [iA (0 : Int), iA (0 : Int), iA (0 : Int), iA (0 : Int), iA (0 : Int), sA ByteArray.empty], 128, 0⟩, some ⟨.mx [iA n36, iA r40.1, iA r43.1.kind, iA r43.1.default.kind, iA r43.1.default.num, sA r43.1.default.text], 128, 0⟩, some ⟨.tr (eL r45.1), 125, 4⟩] rfl rfl ?_; refine PL.op rfl (Rd.moveU rfl) ?_; (iterate 2 refine PL.op rfl (Rd.extract rfl rfl) ?_); refine PL.op rfl (Rd.asnO rfl) ?_; refine PL.op rfl (Rd.asnT rfl) ?_; refine PL.nil ?_; refine thA_n ?_; refine PC.seq ?_; refine PC.region ?_; refine PL.op rfl (Rd.moveT rfl) ?_; refine PL.nil ?_; refine thA_n ?_; rcases cond_some hh1 with ⟨h_47, hh1⟩ | ⟨h_47, hh1⟩; rotate_left
    · refine PC.cond_false rfl h_47 ?_; refine PC.skip ?_; refine inA_n ?_; refine thA_n ?_; obtain ⟨n48, h_49, hh1⟩ := bind_some hh1; refine PC.region ?_; refine PL.op rfl (Rd.moveT rfl) ?_; refine PL.op rfl (Rd.addM rfl rfl h_49) ?_; refine PL.op rfl (Rd.asnT rfl) ?_; refine PL.nil ?_; obtain rfl := some_in hh1; refine thA_n ?_; exact ⟨(f30, (n48, r43.2.b, r43.2.p)), Nat.lt_succ_self _, kk1, [some 0, some 1], ⟨rfl, rfl, ⟨⟨_, rfl, rfl, rfl, .mx ⟨.t _, .t _, trivial⟩⟩, ⟨_, rfl, rfl, rfl, .mx ⟨.t _, .t _, .t _, .t _, .t _, .t _, trivial⟩⟩, trivial⟩, ⟨.op rfl, .t _, .op rfl, .t _, trivial⟩⟩⟩
    refine PC.cond_true rfl h_47 ?_; refine PC.seq ?_; refine PC.region ?_; refine PL.op rfl (Rd.loadBox rfl rfl rfl) ?_; refine PL.store rfl rfl rfl rfl rfl rfl rfl ?_; refine PL.nO [some ⟨.mx [sL r43.2.b, iA r43.2.p], 136, 0⟩, some ⟨.mx [iA n36, iA r40.1, iA r43.1.kind, iA r43.1.default.kind, iA r43.1.default.num, sA r43.1.default.text], 128, 0⟩, some ⟨.mx [iA n36, iA r40.1, iA r43.1.kind, iA r43.1.default.kind, iA r43.1.default.num, sA r43.1.default.text], 128, 0⟩, some ⟨.tr (eL r45.1), 125, 4⟩] rfl ?_; refine PL.nil ?_; refine thA_n ?_; refine PC.ret ?_; refine inA_r ?_; (iterate 2 refine thA_r ?_); refine inA_r ?_; refine thA_r ?_; obtain rfl := some_in hh1; obtain rfl : (.inr ((I_Change.mk n36 r40.1 r43.1), r43.2) : ((List UInt8) × Int) ⊕ (I_Change × S_reader)) = o28 := kk1; refine thA_r ?_; obtain rfl := some_in hh0; exact FinA.mk (r := .agg [iA (((I_Change.mk n36 r40.1 r43.1), r43.2).1.kind), iA (((I_Change.mk n36 r40.1 r43.1), r43.2).1.at_), iA (((I_Change.mk n36 r40.1 r43.1), r43.2).1.column.kind), iA (((I_Change.mk n36 r40.1 r43.1), r43.2).1.column.default.kind), iA (((I_Change.mk n36 r40.1 r43.1), r43.2).1.column.default.num), sA (((I_Change.mk n36 r40.1 r43.1), r43.2).1.column.default.text)]) (bl := [⟨.mx [sL (((I_Change.mk n36 r40.1 r43.1), r43.2).2.b), iA (((I_Change.mk n36 r40.1 r43.1), r43.2).2.p)], 136, 0⟩]) [some 0] (.inl rfl) rfl (rl := [.cell 4 128]) (.cellN rfl rfl rfl rfl .nil) rfl rfl rfl (.aggL ⟨.t _, .t _, .t _, .t _, .t _, .t _, trivial⟩) ⟨⟨_, rfl, rfl, rfl, .mx ⟨.t _, .t _, trivial⟩⟩, trivial⟩ ⟨rfl, rfl⟩
  clear hh0
  rintro ⟨v26, v27⟩ hh0
  replace hh0 : m_S_randomChange_k1 N v26 v27 = some r := hh0
  unfold m_S_randomChange_k1 at hh0; refine thA_n ?_; refine PC.seq ?_; refine PC.region ?_; refine PL.op rfl (Rd.build rfl rfl rfl rfl) ?_; refine PL.store rfl rfl rfl rfl rfl rfl rfl ?_; refine PL.nO [some ⟨.mx [sL v26, iA v27], 136, 0⟩, some ⟨.mx [iA (2 : Int), iA (0 : Int), iA (0 : Int), iA (0 : Int), iA (0 : Int), sA ByteArray.empty], 128, 0⟩] rfl ?_; refine PL.nil ?_; refine thA_n ?_; refine PC.ret ?_; obtain rfl := some_in hh0; exact FinA.mk (r := .agg [iA (((I_Change.mk (2 : Int) (0 : Int) (I_Column.mk (0 : Int) (I_Value.mk (0 : Int) (0 : Int) ByteArray.empty))), (S_reader.mk v26 v27)).1.kind), iA (((I_Change.mk (2 : Int) (0 : Int) (I_Column.mk (0 : Int) (I_Value.mk (0 : Int) (0 : Int) ByteArray.empty))), (S_reader.mk v26 v27)).1.at_), iA (((I_Change.mk (2 : Int) (0 : Int) (I_Column.mk (0 : Int) (I_Value.mk (0 : Int) (0 : Int) ByteArray.empty))), (S_reader.mk v26 v27)).1.column.kind), iA (((I_Change.mk (2 : Int) (0 : Int) (I_Column.mk (0 : Int) (I_Value.mk (0 : Int) (0 : Int) ByteArray.empty))), (S_reader.mk v26 v27)).1.column.default.kind), iA (((I_Change.mk (2 : Int) (0 : Int) (I_Column.mk (0 : Int) (I_Value.mk (0 : Int) (0 : Int) ByteArray.empty))), (S_reader.mk v26 v27)).1.column.default.num), sA (((I_Change.mk (2 : Int) (0 : Int) (I_Column.mk (0 : Int) (I_Value.mk (0 : Int) (0 : Int) ByteArray.empty))), (S_reader.mk v26 v27)).1.column.default.text)]) (bl := [⟨.mx [sL (((I_Change.mk (2 : Int) (0 : Int) (I_Column.mk (0 : Int) (I_Value.mk (0 : Int) (0 : Int) ByteArray.empty))), (S_reader.mk v26 v27)).2.b), iA (((I_Change.mk (2 : Int) (0 : Int) (I_Column.mk (0 : Int) (I_Value.mk (0 : Int) (0 : Int) ByteArray.empty))), (S_reader.mk v26 v27)).2.p)], 136, 0⟩]) [some 0] (.inl rfl) rfl (rl := [.cell 4 128]) (.cellN rfl rfl rfl rfl .nil) rfl rfl rfl (.aggL ⟨.t _, .t _, .t _, .t _, .t _, .t _, trivial⟩) ⟨⟨_, rfl, rfl, rfl, .mx ⟨.t _, .t _, trivial⟩⟩, trivial⟩ ⟨rfl, rfl⟩
def m_S_randomChain_k1 (N : Nat) (r1 : ((List I_Column) × S_reader)) (v22 : (List UInt8)) (v23 : Int) (v24 : (List I_Change)) : Option ((List I_Column) × (List I_Change) × S_reader) :=
  some (r1.1, v24, (S_reader.mk v22 v23))
def m_S_randomChain_b1 (N : Nat) (n5 : (List I_Column)) (c6 : Int) (v7 : (List UInt8)) (v8 : Int) (v9 : (List I_Change)) : Option (((List I_Column) × Int × (List UInt8) × Int × (List I_Change)) ⊕ ((List UInt8) × Int × (List I_Change))) :=
  cond (decide ((0 : Int) < c6))
    ((m_S_randomChange N (S_reader.mk v7 v8) n5).bind fun r31 =>
    (m_S_change N n5 r31.1).bind fun r33 =>
    cond r33.2
      ((appM 56 v9 [r31.1]).bind fun xs36 =>
      (chk (c6 - (1 : Int))).bind fun n38 =>
      some (.inl (r33.1, n38, r31.2.b, r31.2.p, xs36)))
      ((chk (c6 - (1 : Int))).bind fun n40 =>
      some (.inl (n5, n40, r31.2.b, r31.2.p, v9))))
    (some (.inr (v7, v8, v9)))
def m_S_randomChain (N : Nat) (p_r : S_reader) : Option ((List I_Column) × (List I_Change) × S_reader) :=
  (m_S_randomFormat N p_r).bind fun r1 =>
  (m_S_reader_one N r1.2 [(2 : Int), (3 : Int), (1 : Int), (0 : Int), (4 : Int), (8 : Int)]).bind fun r3 =>
  (loopM (β := (List UInt8) × Int × (List I_Change)) (fun s : (List I_Column) × Int × (List UInt8) × Int × (List I_Change) => m_S_randomChain_b1 N s.1 s.2.1 s.2.2.1 s.2.2.2.1 s.2.2.2.2) N (r1.1, r3.1, r3.2.b, r3.2.p, ([] : List I_Change))).bind fun e =>
  m_S_randomChain_k1 N r1 e.1 e.2.1 e.2.2
theorem w_S_randomChain (N : Nat) (p_r : S_reader) (r : (List I_Column) × (List I_Change) × S_reader) (hh0 : m_S_randomChain N p_r = some r) : FnX Tryz.prog 89 [⟨.mx [sL p_r.b, iA p_r.p], 136, 0⟩] [.op 0 0] (RE (.tup [sL r.1, .os 1 0 r.2.1.length]) [⟨.mx [sL r.2.2.b, iA r.2.2.p], 136, 0⟩, ⟨.tr (eL r.2.1), 128, 6⟩]) := by
  unfold m_S_randomChain at hh0; refine FnX.mk Tryz.func89 rfl rfl ?_; intro s hs; refine PC.seq ?_; refine PC.region ?_; (iterate 2 refine PL.op rfl (Rd.asnT rfl) ?_); refine PL.nil ?_; refine thA_n ?_; refine PC.seq ?_; obtain ⟨r1, h_2, hh0⟩ := bind_some hh0; refine PC.region ?_; refine PL.op rfl (Rd.moveP rfl) ?_; refine PL.callM false [0] (w_S_randomFormat N p_r r1 h_2) rfl Tryz.call117 rfl ⟨.op rfl, trivial⟩ rfl ⟨⟨_, rfl, rfl, rfl, .mx ⟨.t _, .t _, trivial⟩⟩, trivial⟩ (fun h => by cases h) ?_; refine PL.nm (.os 1 0 r1.1.length) [some ⟨.mx [sL r1.2.b, iA r1.2.p], 136, 0⟩, some ⟨.tr (eL r1.1), 125, 4⟩] rfl rfl ?_; refine PL.op rfl (Rd.asnO rfl) ?_; refine PL.nil ?_; refine thA_n ?_; refine PC.seq ?_; refine PC.region ?_; refine PL.ef rfl (Ef.lit0M I_Change) ?_; refine PL.nm (.os 2 0 0) [some ⟨.mx [sL r1.2.b, iA r1.2.p], 136, 0⟩, some ⟨.tr (eL r1.1), 125, 4⟩, some ⟨.tr (eL ([] : List I_Change)), 128, 6⟩] rfl rfl ?_; refine PL.op rfl (Rd.asnO rfl) ?_; refine PL.nil ?_; refine thA_n ?_; refine PC.seq ?_; refine PC.region ?_; refine PL.op rfl (Rd.moveO rfl) ?_; refine PL.op rfl (Rd.asnO rfl) ?_; refine PL.nil ?_; refine thA_n ?_; (iterate 2 refine PC.seq ?_); obtain ⟨r3, h_4, hh0⟩ := bind_some hh0; refine PC.region ?_; refine PL.op rfl (Rd.moveP rfl) ?_; refine PL.er rfl (Er.ints [(2 : Int), (3 : Int), (1 : Int), (0 : Int), (4 : Int), (8 : Int)] rfl rfl (by decide) rfl) ?_; refine PL.callM false [0] (w_S_reader_one N r1.2 [(2 : Int), (3 : Int), (1 : Int), (0 : Int), (4 : Int), (8 : Int)] r3 h_4) rfl Tryz.call53 rfl ⟨.op rfl, .t _, trivial⟩ rfl ⟨⟨_, rfl, rfl, rfl, .mx ⟨.t _, .t _, trivial⟩⟩, trivial⟩ (fun h => by cases h) ?_; refine PL.nm (iA r3.1) [some ⟨.mx [sL r3.2.b, iA r3.2.p], 136, 0⟩, some ⟨.tr (eL r1.1), 125, 4⟩, some ⟨.tr (eL ([] : List I_Change)), 128, 6⟩] rfl rfl ?_; refine PL.op rfl (Rd.asnT rfl) ?_; refine PL.nil ?_; refine thA_n ?_; obtain ⟨o25, h_26, hh0⟩ := bind_some hh0; refine PC.cutE hs (fun x : (List UInt8) × Int × (List I_Change) => [(4, sL r1.1), (5, .os 1 0 x.2.2.length)]) (fun x => [⟨.mx [sL x.1, iA x.2.1], 136, 0⟩, ⟨.tr (eL x.2.2), 128, 6⟩]) (fun x => m_S_randomChain_k1 N r1 x.1 x.2.1 x.2.2 = some r) ?_ ?_
  · refine PC.block ?_; refine PC.loop hs (fun x : Nat × ((List I_Column) × Int × (List UInt8) × Int × (List I_Change)) => [(0, .op 0 0), (4, sL r1.1), (5, .os 1 0 x.2.2.2.2.2.length), (6, sL x.2.1), (7, iA x.2.2.1)]) (fun x => [⟨.mx [sL x.2.2.2.1, iA x.2.2.2.2.1], 136, 0⟩, ⟨.tr (eL x.2.2.2.2.2), 128, 6⟩]) (fun x => loopM (β := (List UInt8) × Int × (List I_Change)) (fun s : (List I_Column) × Int × (List UInt8) × Int × (List I_Change) => m_S_randomChain_b1 N s.1 s.2.1 s.2.2.1 s.2.2.2.1 s.2.2.2.2) x.1 x.2 = some o25) (fun x => x.1) (N, (r1.1, r3.1, r3.2.b, r3.2.p, ([] : List I_Change))) [some 0, some 2] ⟨rfl, rfl, ⟨⟨_, rfl, rfl, rfl, .mx ⟨.t _, .t _, trivial⟩⟩, ⟨_, rfl, rfl, rfl, .tr _⟩, trivial⟩, ⟨.op rfl, .own rfl (by first | decide | exact List.not_mem_nil) rfl rfl, .os rfl, .own rfl (by first | decide | exact List.not_mem_nil) rfl rfl, .t _, trivial⟩⟩ h_26 ?_
    rintro ⟨f27_, n5, c6, v7, v8, v9⟩ h_29
    obtain ⟨f27, y28, rfl, hh1, kk1⟩ := loopM_some h_29
    replace hh1 : m_S_randomChain_b1 N n5 c6 v7 v8 v9 = some y28 := hh1
    unfold m_S_randomChain_b1 at hh1; (iterate 2 refine PC.seq ?_); refine PC.region ?_; refine PL.op rfl (Rd.moveT rfl) ?_; refine PL.op rfl (Rd.gtr rfl rfl) ?_; refine PL.nil ?_; refine thA_n ?_; rcases cond_some hh1 with ⟨h_30, hh1⟩ | ⟨h_30, hh1⟩; rotate_left
    · refine PC.cond_false rfl h_30 ?_; refine PC.exit ?_; (iterate 2 refine thA_e ?_); refine inA_eq rfl ?_; refine thA_n ?_; obtain rfl := some_in hh1; obtain rfl : ((v7, v8, v9) : (List UInt8) × Int × (List I_Change)) = o25 := kk1; exact ⟨(v7, v8, v9), hh0, [some 0, some 1], ⟨rfl, rfl, ⟨⟨_, rfl, rfl, rfl, .mx ⟨.t _, .t _, trivial⟩⟩, ⟨_, rfl, rfl, rfl, .tr _⟩, trivial⟩, ⟨.t _, .os rfl, trivial⟩⟩⟩
    refine PC.cond_true rfl h_30 ?_; refine PC.skip ?_; refine thA_n ?_; refine PC.seq ?_; refine PC.block ?_; refine PC.seq ?_; obtain ⟨r31, h_32, hh1⟩ := bind_some hh1; refine PC.region ?_; refine PL.op rfl (Rd.moveP rfl) ?_; refine PL.op rfl (Rd.moveT rfl) ?_; refine PL.callM false [0] (w_S_randomChange N (S_reader.mk v7 v8) n5 r31 h_32) rfl Tryz.call118 rfl ⟨.op rfl, .t _, trivial⟩ rfl ⟨⟨_, rfl, rfl, rfl, .mx ⟨.t _, .t _, trivial⟩⟩, trivial⟩ (fun h => by cases h) ?_; refine PL.nm (.agg [iA r31.1.kind, iA r31.1.at_, iA r31.1.column.kind, iA r31.1.column.default.kind, iA r31.1.column.default.num, sA r31.1.column.default.text]) [some ⟨.mx [sL r31.2.b, iA r31.2.p], 136, 0⟩, some ⟨.tr (eL v9), 128, 6⟩] rfl rfl ?_; refine PL.ef rfl (Ef.alloc rfl rfl) ?_; refine PL.nm (.op 2 0) [some ⟨.mx [sL r31.2.b, iA r31.2.p], 136, 0⟩, some ⟨.tr (eL v9), 128, 6⟩, some ⟨.mx [iA (0 : Int), iA (0 : Int), iA (0 : Int), iA (0 : Int), iA (0 : Int), sA ByteArray.empty], 128, 0⟩] rfl rfl ?_; refine PL.store rfl rfl rfl rfl rfl rfl rfl ?_; refine PL.nO [some ⟨.mx [sL r31.2.b, iA r31.2.p], 136, 0⟩, some ⟨.tr (eL v9), 128, 6⟩, some ⟨.mx [iA r31.1.kind, iA r31.1.at_, iA r31.1.column.kind, iA r31.1.column.default.kind, iA r31.1.column.default.num, sA r31.1.column.default.text], 128, 0⟩] rfl ?_; refine PL.nil ?_; refine thA_n ?_; refine PC.seq ?_; obtain ⟨r33, h_34, hh1⟩ := bind_some hh1; refine PC.region ?_; refine PL.op rfl (Rd.moveT rfl) ?_; refine PL.op rfl (Rd.loadBox rfl rfl rfl) ?_; refine PL.callM false [] (w_S_change N n5 r31.1 r33 h_34) rfl Tryz.call110 rfl ⟨.t _, .aggL ⟨.t _, .t _, .t _, .t _, .t _, .t _, trivial⟩, trivial⟩ rfl trivial (fun h => by cases h) ?_; refine PL.nm (.tup [.os 3 0 r33.1.length, bA r33.2]) [some ⟨.mx [sL r31.2.b, iA r31.2.p], 136, 0⟩, some ⟨.tr (eL v9), 128, 6⟩, some ⟨.mx [iA r31.1.kind, iA r31.1.at_, iA r31.1.column.kind, iA r31.1.column.default.kind, iA r31.1.column.default.num, sA r31.1.column.default.text], 128, 0⟩, some ⟨.tr (eL r33.1), 125, 4⟩] rfl rfl ?_; refine PL.op rfl (Rd.moveU rfl) ?_; (iterate 2 refine PL.op rfl (Rd.extract rfl rfl) ?_); refine PL.op rfl (Rd.asnO rfl) ?_; refine PL.op rfl (Rd.asnT rfl) ?_; refine PL.nil ?_; refine thA_n ?_; refine PC.seq ?_; refine PC.region ?_; refine PL.op rfl (Rd.moveT rfl) ?_; refine PL.nil ?_; refine thA_n ?_; rcases cond_some hh1 with ⟨h_35, hh1⟩ | ⟨h_35, hh1⟩; rotate_left
    · refine PC.cond_false rfl h_35 ?_; refine PC.skip ?_; refine inA_n ?_; refine thA_n ?_; obtain ⟨n40, h_41, hh1⟩ := bind_some hh1; refine PC.region ?_; refine PL.op rfl (Rd.moveT rfl) ?_; refine PL.op rfl (Rd.subM rfl rfl h_41) ?_; refine PL.op rfl (Rd.asnT rfl) ?_; refine PL.nil ?_; obtain rfl := some_in hh1; refine thA_n ?_; exact ⟨(f27, (n5, n40, r31.2.b, r31.2.p, v9)), Nat.lt_succ_self _, kk1, [some 0, some 1], ⟨rfl, rfl, ⟨⟨_, rfl, rfl, rfl, .mx ⟨.t _, .t _, trivial⟩⟩, ⟨_, rfl, rfl, rfl, .tr _⟩, trivial⟩, ⟨.op rfl, .t _, .os rfl, .t _, .t _, trivial⟩⟩⟩
    refine PC.cond_true rfl h_35 ?_; refine PC.seq ?_; obtain ⟨xs36, h_37, hh1⟩ := bind_some hh1; refine PC.region ?_; refine PL.op rfl (Rd.moveO rfl) ?_; refine PL.op rfl (Rd.loadBox rfl rfl rfl) ?_; refine PL.ef rfl (Ef.litM (α := I_Change) [r31.1] [_] rfl rfl (by decide) rfl rfl rfl rfl) ?_; refine PL.nm (.os 4 0 1) [some ⟨.mx [sL r31.2.b, iA r31.2.p], 136, 0⟩, some ⟨.tr (eL v9), 128, 6⟩, some ⟨.mx [iA r31.1.kind, iA r31.1.at_, iA r31.1.column.kind, iA r31.1.column.default.kind, iA r31.1.column.default.num, sA r31.1.column.default.text], 128, 0⟩, some ⟨.tr (eL r33.1), 125, 4⟩, some ⟨.tr (eL [r31.1]), 128, 6⟩] rfl rfl ?_; refine PL.apM hs rfl rfl rfl rfl (SrcA.ownE rfl rfl rfl) rfl rfl rfl rfl h_37 ?_; refine PL.nm (.os 5 0 xs36.length) [some ⟨.mx [sL r31.2.b, iA r31.2.p], 136, 0⟩, none, some ⟨.mx [iA r31.1.kind, iA r31.1.at_, iA r31.1.column.kind, iA r31.1.column.default.kind, iA r31.1.column.default.num, sA r31.1.column.default.text], 128, 0⟩, some ⟨.tr (eL r33.1), 125, 4⟩, some ⟨.tr (eL [r31.1]), 128, 6⟩, some ⟨.tr (eL xs36), 128, 6⟩] rfl rfl ?_; refine PL.op rfl (Rd.asnO rfl) ?_; refine PL.nil ?_; refine thA_n ?_; refine PC.region ?_; refine PL.op rfl (Rd.moveO rfl) ?_; refine PL.op rfl (Rd.asnO rfl) ?_; refine PL.nil ?_; refine inA_n ?_; refine thA_n ?_; obtain ⟨n38, h_39, hh1⟩ := bind_some hh1; refine PC.region ?_; refine PL.op rfl (Rd.moveT rfl) ?_; refine PL.op rfl (Rd.subM rfl rfl h_39) ?_; refine PL.op rfl (Rd.asnT rfl) ?_; refine PL.nil ?_; obtain rfl := some_in hh1; refine thA_n ?_; exact ⟨(f27, (r33.1, n38, r31.2.b, r31.2.p, xs36)), Nat.lt_succ_self _, kk1, [some 0, some 5], ⟨rfl, rfl, ⟨⟨_, rfl, rfl, rfl, .mx ⟨.t _, .t _, trivial⟩⟩, ⟨_, rfl, rfl, rfl, .tr _⟩, trivial⟩, ⟨.op rfl, .t _, .os rfl, .own rfl (by first | decide | exact List.not_mem_nil) rfl rfl, .t _, trivial⟩⟩⟩
  clear hh0
  rintro ⟨v22, v23, v24⟩ hh0
  replace hh0 : m_S_randomChain_k1 N r1 v22 v23 v24 = some r := hh0
  unfold m_S_randomChain_k1 at hh0; refine thA_n ?_; refine PC.seq ?_; refine PC.region ?_; refine PL.op rfl (Rd.moveT rfl) ?_; refine PL.op rfl (Rd.moveO rfl) ?_; refine PL.op rfl (Rd.asnT rfl) ?_; refine PL.op rfl (Rd.asnO rfl) ?_; refine PL.nil ?_; refine thA_n ?_; refine PC.ret ?_; obtain rfl := some_in hh0; exact FinA.mk (r := .tup [sL ((r1.1, v24, (S_reader.mk v22 v23)).1), .os 1 0 (((r1.1, v24, (S_reader.mk v22 v23)).2.1).length)]) (bl := [⟨.mx [sL ((r1.1, v24, (S_reader.mk v22 v23)).2.2.b), iA ((r1.1, v24, (S_reader.mk v22 v23)).2.2.p)], 136, 0⟩, ⟨.tr (eL ((r1.1, v24, (S_reader.mk v22 v23)).2.1)), 128, 6⟩]) [some 0, some 1] (.inl rfl) rfl (rl := [.tmp 2, .tmp 3]) (.tmp (.tmp .nil)) rfl rfl rfl (.tupL ⟨.t _, .os rfl, trivial⟩) ⟨⟨_, rfl, rfl, rfl, .mx ⟨.t _, .t _, trivial⟩⟩, ⟨_, rfl, rfl, rfl, .tr _⟩, trivial⟩ ⟨rfl, rfl⟩
def m_S_randomRow_k1 (N : Nat) (v14 : (List UInt8)) (v15 : Int) (v16 : (List I_Value)) : Option ((List I_Value) × S_reader) :=
  some (v16, (S_reader.mk v14 v15))
def m_S_randomRow_b1 (N : Nat) (p_f : (List I_Column)) (i1 : Int) (v2 : (List UInt8)) (v3 : Int) (v4 : (List I_Value)) : Option ((Int × (List UInt8) × Int × (List I_Value)) ⊕ ((List UInt8) × Int × (List I_Value))) :=
  cond (decide (i1 < (p_f.length : Int)))
    ((ixI p_f i1).bind fun x23 =>
    (m_S_randomValue N (S_reader.mk v2 v3) x23.kind).bind fun r25 =>
    (appM 32 v4 [r25.1]).bind fun xs27 =>
    (chk (i1 + (1 : Int))).bind fun n29 =>
    some (.inl (n29, r25.2.b, r25.2.p, xs27)))
    (some (.inr (v2, v3, v4)))
def m_S_randomRow (N : Nat) (p_r : S_reader) (p_f : (List I_Column)) : Option ((List I_Value) × S_reader) :=
  (loopM (β := (List UInt8) × Int × (List I_Value)) (fun s : Int × (List UInt8) × Int × (List I_Value) => m_S_randomRow_b1 N p_f s.1 s.2.1 s.2.2.1 s.2.2.2) N ((0 : Int), p_r.b, p_r.p, ([] : List I_Value))).bind fun e =>
  m_S_randomRow_k1 N e.1 e.2.1 e.2.2
theorem w_S_randomRow (N : Nat) (p_r : S_reader) (p_f : (List I_Column)) (r : (List I_Value) × S_reader) (hh0 : m_S_randomRow N p_r p_f = some r) : FnX Tryz.prog 90 [⟨.mx [sL p_r.b, iA p_r.p], 136, 0⟩] [.op 0 0, sL p_f] (RE (.os 1 0 r.1.length) [⟨.mx [sL r.2.b, iA r.2.p], 136, 0⟩, ⟨.tr (eL r.1), 39, 3⟩]) := by
  unfold m_S_randomRow at hh0; refine FnX.mk Tryz.func90 rfl rfl ?_; intro s hs; refine PC.seq ?_; refine PC.region ?_; refine PL.op rfl (Rd.asnT rfl) ?_; refine PL.nil ?_; refine thA_n ?_; refine PC.seq ?_; refine PC.region ?_; refine PL.ef rfl (Ef.lit0M I_Value) ?_; refine PL.nm (.os 1 0 0) [some ⟨.mx [sL p_r.b, iA p_r.p], 136, 0⟩, some ⟨.tr (eL ([] : List I_Value)), 39, 3⟩] rfl rfl ?_; refine PL.op rfl (Rd.asnO rfl) ?_; refine PL.nil ?_; refine thA_n ?_; (iterate 2 refine PC.seq ?_); refine PC.region ?_; refine PL.op rfl (Rd.asnT rfl) ?_; refine PL.nil ?_; refine thA_n ?_; obtain ⟨o17, h_18, hh0⟩ := bind_some hh0; refine PC.cutE hs (fun x : (List UInt8) × Int × (List I_Value) => [(5, .os 1 0 x.2.2.length)]) (fun x => [⟨.mx [sL x.1, iA x.2.1], 136, 0⟩, ⟨.tr (eL x.2.2), 39, 3⟩]) (fun x => m_S_randomRow_k1 N x.1 x.2.1 x.2.2 = some r) ?_ ?_
  · refine PC.block ?_; refine PC.loop hs (fun x : Nat × (Int × (List UInt8) × Int × (List I_Value)) => [(0, .op 0 0), (1, sL p_f), (5, .os 1 0 x.2.2.2.2.length), (6, iA x.2.1)]) (fun x => [⟨.mx [sL x.2.2.1, iA x.2.2.2.1], 136, 0⟩, ⟨.tr (eL x.2.2.2.2), 39, 3⟩]) (fun x => loopM (β := (List UInt8) × Int × (List I_Value)) (fun s : Int × (List UInt8) × Int × (List I_Value) => m_S_randomRow_b1 N p_f s.1 s.2.1 s.2.2.1 s.2.2.2) x.1 x.2 = some o17) (fun x => x.1) (N, ((0 : Int), p_r.b, p_r.p, ([] : List I_Value))) [some 0, some 1] ⟨rfl, rfl, ⟨⟨_, rfl, rfl, rfl, .mx ⟨.t _, .t _, trivial⟩⟩, ⟨_, rfl, rfl, rfl, .tr _⟩, trivial⟩, ⟨.op rfl, .t _, .os rfl, .t _, trivial⟩⟩ h_18 ?_
    rintro ⟨f19_, i1, v2, v3, v4⟩ h_21
    obtain ⟨f19, y20, rfl, hh1, kk1⟩ := loopM_some h_21
    replace hh1 : m_S_randomRow_b1 N p_f i1 v2 v3 v4 = some y20 := hh1
    unfold m_S_randomRow_b1 at hh1; (iterate 2 refine PC.seq ?_); refine PC.region ?_; (iterate 2 refine PL.op rfl (Rd.moveT rfl) ?_); refine PL.op rfl (Rd.lenT rfl) ?_; refine PL.op rfl (Rd.lss rfl rfl) ?_; refine PL.nil ?_; refine thA_n ?_; rcases cond_some hh1 with ⟨h_22, hh1⟩ | ⟨h_22, hh1⟩; rotate_left
    · refine PC.cond_false rfl h_22 ?_; refine PC.exit ?_; (iterate 2 refine thA_e ?_); refine inA_eq rfl ?_; refine thA_n ?_; obtain rfl := some_in hh1; obtain rfl : ((v2, v3, v4) : (List UInt8) × Int × (List I_Value)) = o17 := kk1; exact ⟨(v2, v3, v4), hh0, [some 0, some 1], ⟨rfl, rfl, ⟨⟨_, rfl, rfl, rfl, .mx ⟨.t _, .t _, trivial⟩⟩, ⟨_, rfl, rfl, rfl, .tr _⟩, trivial⟩, ⟨.os rfl, trivial⟩⟩⟩
    refine PC.cond_true rfl h_22 ?_; refine PC.skip ?_; refine thA_n ?_; refine PC.seq ?_; refine PC.block ?_; obtain ⟨x23, h_24, hh1⟩ := bind_some hh1; obtain ⟨r25, h_26, hh1⟩ := bind_some hh1; obtain ⟨xs27, h_28, hh1⟩ := bind_some hh1; refine PC.region ?_; refine PL.op rfl (Rd.moveO rfl) ?_; refine PL.op rfl (Rd.moveP rfl) ?_; (iterate 2 refine PL.op rfl (Rd.moveT rfl) ?_); refine PL.op rfl (Rd.ixM rfl rfl h_24) ?_; refine PL.op rfl (Rd.fieldT rfl) ?_; refine PL.op rfl (Rd.elMF (f := 0) rfl h_24 rfl rfl) ?_; refine PL.callM false [0] (w_S_randomValue N (S_reader.mk v2 v3) x23.kind r25 h_26) rfl Tryz.call102 rfl ⟨.op rfl, .t _, trivial⟩ rfl ⟨⟨_, rfl, rfl, rfl, .mx ⟨.t _, .t _, trivial⟩⟩, trivial⟩ (fun h => by cases h) ?_; refine PL.nm (.agg [iA r25.1.kind, iA r25.1.num, sA r25.1.text]) [some ⟨.mx [sL r25.2.b, iA r25.2.p], 136, 0⟩, some ⟨.tr (eL v4), 39, 3⟩] rfl rfl ?_; refine PL.ef rfl (Ef.litM (α := I_Value) [r25.1] [_] rfl rfl (by decide) rfl rfl rfl rfl) ?_; refine PL.nm (.os 2 0 1) [some ⟨.mx [sL r25.2.b, iA r25.2.p], 136, 0⟩, some ⟨.tr (eL v4), 39, 3⟩, some ⟨.tr (eL [r25.1]), 39, 3⟩] rfl rfl ?_; refine PL.apM hs rfl rfl rfl rfl (SrcA.ownE rfl rfl rfl) rfl rfl rfl rfl h_28 ?_; refine PL.nm (.os 3 0 xs27.length) [some ⟨.mx [sL r25.2.b, iA r25.2.p], 136, 0⟩, none, some ⟨.tr (eL [r25.1]), 39, 3⟩, some ⟨.tr (eL xs27), 39, 3⟩] rfl rfl ?_; refine PL.op rfl (Rd.asnO rfl) ?_; refine PL.nil ?_; refine inA_n ?_; refine thA_n ?_; obtain ⟨n29, h_30, hh1⟩ := bind_some hh1; refine PC.region ?_; refine PL.op rfl (Rd.moveT rfl) ?_; refine PL.op rfl (Rd.addM rfl rfl h_30) ?_; refine PL.op rfl (Rd.asnT rfl) ?_; refine PL.nil ?_; obtain rfl := some_in hh1; refine thA_n ?_; exact ⟨(f19, (n29, r25.2.b, r25.2.p, xs27)), Nat.lt_succ_self _, kk1, [some 0, some 3], ⟨rfl, rfl, ⟨⟨_, rfl, rfl, rfl, .mx ⟨.t _, .t _, trivial⟩⟩, ⟨_, rfl, rfl, rfl, .tr _⟩, trivial⟩, ⟨.op rfl, .t _, .os rfl, .t _, trivial⟩⟩⟩
  clear hh0
  rintro ⟨v14, v15, v16⟩ hh0
  replace hh0 : m_S_randomRow_k1 N v14 v15 v16 = some r := hh0
  unfold m_S_randomRow_k1 at hh0; refine thA_n ?_; refine PC.seq ?_; refine PC.region ?_; refine PL.op rfl (Rd.moveO rfl) ?_; refine PL.op rfl (Rd.asnO rfl) ?_; refine PL.nil ?_; refine thA_n ?_; refine PC.ret ?_; obtain rfl := some_in hh0; exact FinA.mk (r := .os 1 0 (((v16, (S_reader.mk v14 v15)).1).length)) (bl := [⟨.mx [sL ((v16, (S_reader.mk v14 v15)).2.b), iA ((v16, (S_reader.mk v14 v15)).2.p)], 136, 0⟩, ⟨.tr (eL ((v16, (S_reader.mk v14 v15)).1)), 39, 3⟩]) [some 0, some 1] (.inl rfl) rfl (rl := [.tmp 4]) (.tmp .nil) rfl rfl rfl (.os rfl) ⟨⟨_, rfl, rfl, rfl, .mx ⟨.t _, .t _, trivial⟩⟩, ⟨_, rfl, rfl, rfl, .tr _⟩, trivial⟩ ⟨rfl, rfl⟩
def m_S_anyValue (N : Nat) (p_r : S_reader) : Option (I_Value × S_reader) :=
  (m_S_randomValue N p_r (-1 : Int)).bind fun r1 =>
  (m_S_reader_pick N r1.2 (24 : Int)).bind fun r3 =>
  cond (decide (r3.1 = (0 : Int)))
    ((m_S_reader_one N r3.2 [(1000000 : Int), (-1000000 : Int), (5 : Int)]).bind fun r6 =>
    some ((I_Value.mk r1.1.kind r6.1 r1.1.text), r6.2))
    (cond (decide (r3.1 = (1 : Int)))
      ((m_S_reader_of N r3.2 ([(ByteArray.mk #[97, 98, 99, 100, 101, 102, 103, 104, 105, 106, 107, 108, 109]), (ByteArray.mk #[10]), (ByteArray.mk #[120])])).bind fun r9 =>
      some ((I_Value.mk r1.1.kind r1.1.num r9.1), r9.2))
      (cond (decide (r3.1 = (2 : Int)))
        ((m_S_reader_one N r3.2 [(-1 : Int), (3 : Int), (0 : Int)]).bind fun r12 =>
        some ((I_Value.mk r12.1 r1.1.num r1.1.text), r12.2))
        (some (r1.1, r3.2))))
theorem w_S_anyValue (N : Nat) (p_r : S_reader) (r : I_Value × S_reader) (hh0 : m_S_anyValue N p_r = some r) : FnX Tryz.prog 66 [⟨.mx [sL p_r.b, iA p_r.p], 136, 0⟩] [.op 0 0] (RE (.agg [iA r.1.kind, iA r.1.num, sA r.1.text]) [⟨.mx [sL r.2.b, iA r.2.p], 136, 0⟩]) := by
  unfold m_S_anyValue at hh0; refine FnX.mk Tryz.func66 rfl rfl ?_; intro s hs; refine PC.seq ?_; refine PC.region ?_; refine PL.ef rfl (Ef.alloc rfl rfl) ?_; refine PL.nm (.op 1 0) [some ⟨.mx [sL p_r.b, iA p_r.p], 136, 0⟩, some ⟨.mx [iA (0 : Int), iA (0 : Int), sA ByteArray.empty], 39, 0⟩] rfl rfl ?_; refine PL.nil ?_; refine thA_n ?_; refine PC.seq ?_; obtain ⟨r1, h_2, hh0⟩ := bind_some hh0; refine PC.region ?_; refine PL.op rfl (Rd.moveP rfl) ?_; refine PL.callM false [0] (w_S_randomValue N p_r (-1 : Int) r1 h_2) rfl Tryz.call102 rfl ⟨.op rfl, .t _, trivial⟩ rfl ⟨⟨_, rfl, rfl, rfl, .mx ⟨.t _, .t _, trivial⟩⟩, trivial⟩ (fun h => by cases h) ?_; refine PL.nm (.agg [iA r1.1.kind, iA r1.1.num, sA r1.1.text]) [some ⟨.mx [sL r1.2.b, iA r1.2.p], 136, 0⟩, some ⟨.mx [iA (0 : Int), iA (0 : Int), sA ByteArray.empty], 39, 0⟩] rfl rfl ?_; refine PL.ef rfl (Ef.alloc rfl rfl) ?_; refine PL.nm (.op 2 0) [some ⟨.mx [sL r1.2.b, iA r1.2.p], 136, 0⟩, some ⟨.mx [iA (0 : Int), iA (0 : Int), sA ByteArray.empty], 39, 0⟩, some ⟨.mx [iA (0 : Int), iA (0 : Int), sA ByteArray.empty], 39, 0⟩] rfl rfl ?_; refine PL.store rfl rfl rfl rfl rfl rfl rfl ?_; refine PL.nO [some ⟨.mx [sL r1.2.b, iA r1.2.p], 136, 0⟩, some ⟨.mx [iA (0 : Int), iA (0 : Int), sA ByteArray.empty], 39, 0⟩, some ⟨.mx [iA r1.1.kind, iA r1.1.num, sA r1.1.text], 39, 0⟩] rfl ?_; refine PL.nil ?_; refine thA_n ?_; (iterate 2 refine PC.seq ?_); obtain ⟨r3, h_4, hh0⟩ := bind_some hh0; refine PC.region ?_; refine PL.op rfl (Rd.moveP rfl) ?_; refine PL.callM false [0] (w_S_reader_pick N r1.2 (24 : Int) r3 h_4) rfl Tryz.call67 rfl ⟨.op rfl, .t _, trivial⟩ rfl ⟨⟨_, rfl, rfl, rfl, .mx ⟨.t _, .t _, trivial⟩⟩, trivial⟩ (fun h => by cases h) ?_; refine PL.nm (iA r3.1) [some ⟨.mx [sL r3.2.b, iA r3.2.p], 136, 0⟩, some ⟨.mx [iA (0 : Int), iA (0 : Int), sA ByteArray.empty], 39, 0⟩, some ⟨.mx [iA r1.1.kind, iA r1.1.num, sA r1.1.text], 39, 0⟩] rfl rfl ?_; refine PL.nil ?_; refine thA_n ?_; refine PC.block ?_; refine PC.seq ?_; refine PC.region ?_; refine PL.op rfl (Rd.eql rfl rfl) ?_; refine PL.op rfl (Rd.asnT rfl) ?_; refine PL.nil ?_; refine thA_n ?_; rcases cond_some hh0 with ⟨h_5, hh0⟩ | ⟨h_5, hh0⟩
  · refine PC.cond_true rfl h_5 ?_; obtain ⟨r6, h_7, hh0⟩ := bind_some hh0; refine PC.region ?_; refine PL.op rfl (Rd.moveP rfl) ?_; refine PL.er rfl (Er.ints [(1000000 : Int), (-1000000 : Int), (5 : Int)] rfl rfl (by decide) rfl) ?_; refine PL.callM false [0] (w_S_reader_one N r3.2 [(1000000 : Int), (-1000000 : Int), (5 : Int)] r6 h_7) rfl Tryz.call53 rfl ⟨.op rfl, .t _, trivial⟩ rfl ⟨⟨_, rfl, rfl, rfl, .mx ⟨.t _, .t _, trivial⟩⟩, trivial⟩ (fun h => by cases h) ?_; refine PL.nm (iA r6.1) [some ⟨.mx [sL r6.2.b, iA r6.2.p], 136, 0⟩, some ⟨.mx [iA (0 : Int), iA (0 : Int), sA ByteArray.empty], 39, 0⟩, some ⟨.mx [iA r1.1.kind, iA r1.1.num, sA r1.1.text], 39, 0⟩] rfl rfl ?_; refine PL.op rfl (Rd.fieldO rfl rfl) ?_; refine PL.store rfl rfl rfl rfl rfl rfl rfl ?_; refine PL.nO [some ⟨.mx [sL r6.2.b, iA r6.2.p], 136, 0⟩, some ⟨.mx [iA (0 : Int), iA (0 : Int), sA ByteArray.empty], 39, 0⟩, some ⟨.mx [iA r1.1.kind, iA r6.1, sA r1.1.text], 39, 0⟩] rfl ?_; refine PL.nil ?_; refine inA_n ?_; refine thA_n ?_; refine PC.seq ?_; refine PC.region ?_; refine PL.op rfl (Rd.loadBox rfl rfl rfl) ?_; refine PL.store rfl rfl rfl rfl rfl rfl rfl ?_; refine PL.nO [some ⟨.mx [sL r6.2.b, iA r6.2.p], 136, 0⟩, some ⟨.mx [iA r1.1.kind, iA r6.1, sA r1.1.text], 39, 0⟩, some ⟨.mx [iA r1.1.kind, iA r6.1, sA r1.1.text], 39, 0⟩] rfl ?_; refine PL.nil ?_; refine thA_n ?_; refine PC.ret ?_; obtain rfl := some_in hh0; exact FinA.mk (r := .agg [iA (((I_Value.mk r1.1.kind r6.1 r1.1.text), r6.2).1.kind), iA (((I_Value.mk r1.1.kind r6.1 r1.1.text), r6.2).1.num), sA (((I_Value.mk r1.1.kind r6.1 r1.1.text), r6.2).1.text)]) (bl := [⟨.mx [sL (((I_Value.mk r1.1.kind r6.1 r1.1.text), r6.2).2.b), iA (((I_Value.mk r1.1.kind r6.1 r1.1.text), r6.2).2.p)], 136, 0⟩]) [some 0] (.inl rfl) rfl (rl := [.cell 2 39]) (.cellN rfl rfl rfl rfl .nil) rfl rfl rfl (.aggL ⟨.t _, .t _, .t _, trivial⟩) ⟨⟨_, rfl, rfl, rfl, .mx ⟨.t _, .t _, trivial⟩⟩, trivial⟩ ⟨rfl, rfl⟩
  refine PC.cond_false rfl h_5 ?_; refine PC.seq ?_; refine PC.region ?_; refine PL.op rfl (Rd.eql rfl rfl) ?_; refine PL.op rfl (Rd.asnT rfl) ?_; refine PL.nil ?_; refine thA_n ?_; rcases cond_some hh0 with ⟨h_8, hh0⟩ | ⟨h_8, hh0⟩
  · refine PC.cond_true rfl h_8 ?_; obtain ⟨r9, h_10, hh0⟩ := bind_some hh0; refine PC.region ?_; refine PL.op rfl (Rd.moveP rfl) ?_; refine PL.er rfl (Er.strs [(ByteArray.mk #[97, 98, 99, 100, 101, 102, 103, 104, 105, 106, 107, 108, 109]), (ByteArray.mk #[10]), (ByteArray.mk #[120])] rfl rfl (by decide) rfl) ?_; refine PL.callM false [0] (w_S_reader_of N r3.2 ([(ByteArray.mk #[97, 98, 99, 100, 101, 102, 103, 104, 105, 106, 107, 108, 109]), (ByteArray.mk #[10]), (ByteArray.mk #[120])]) r9 h_10) rfl Tryz.call103 rfl ⟨.op rfl, .t _, trivial⟩ rfl ⟨⟨_, rfl, rfl, rfl, .mx ⟨.t _, .t _, trivial⟩⟩, trivial⟩ (fun h => by cases h) ?_; refine PL.nm (sA r9.1) [some ⟨.mx [sL r9.2.b, iA r9.2.p], 136, 0⟩, some ⟨.mx [iA (0 : Int), iA (0 : Int), sA ByteArray.empty], 39, 0⟩, some ⟨.mx [iA r1.1.kind, iA r1.1.num, sA r1.1.text], 39, 0⟩] rfl rfl ?_; refine PL.op rfl (Rd.fieldO rfl rfl) ?_; refine PL.store rfl rfl rfl rfl rfl rfl rfl ?_; refine PL.nO [some ⟨.mx [sL r9.2.b, iA r9.2.p], 136, 0⟩, some ⟨.mx [iA (0 : Int), iA (0 : Int), sA ByteArray.empty], 39, 0⟩, some ⟨.mx [iA r1.1.kind, iA r1.1.num, sA r9.1], 39, 0⟩] rfl ?_; refine PL.nil ?_; refine inA_n ?_; refine thA_n ?_; refine PC.seq ?_; refine PC.region ?_; refine PL.op rfl (Rd.loadBox rfl rfl rfl) ?_; refine PL.store rfl rfl rfl rfl rfl rfl rfl ?_; refine PL.nO [some ⟨.mx [sL r9.2.b, iA r9.2.p], 136, 0⟩, some ⟨.mx [iA r1.1.kind, iA r1.1.num, sA r9.1], 39, 0⟩, some ⟨.mx [iA r1.1.kind, iA r1.1.num, sA r9.1], 39, 0⟩] rfl ?_; refine PL.nil ?_; refine thA_n ?_; refine PC.ret ?_; obtain rfl := some_in hh0; exact FinA.mk (r := .agg [iA (((I_Value.mk r1.1.kind r1.1.num r9.1), r9.2).1.kind), iA (((I_Value.mk r1.1.kind r1.1.num r9.1), r9.2).1.num), sA (((I_Value.mk r1.1.kind r1.1.num r9.1), r9.2).1.text)]) (bl := [⟨.mx [sL (((I_Value.mk r1.1.kind r1.1.num r9.1), r9.2).2.b), iA (((I_Value.mk r1.1.kind r1.1.num r9.1), r9.2).2.p)], 136, 0⟩]) [some 0] (.inl rfl) rfl (rl := [.cell 2 39]) (.cellN rfl rfl rfl rfl .nil) rfl rfl rfl (.aggL ⟨.t _, .t _, .t _, trivial⟩) ⟨⟨_, rfl, rfl, rfl, .mx ⟨.t _, .t _, trivial⟩⟩, trivial⟩ ⟨rfl, rfl⟩
  refine PC.cond_false rfl h_8 ?_; refine PC.seq ?_; refine PC.region ?_; refine PL.op rfl (Rd.eql rfl rfl) ?_; refine PL.op rfl (Rd.asnT rfl) ?_; refine PL.nil ?_; refine thA_n ?_; rcases cond_some hh0 with ⟨h_11, hh0⟩ | ⟨h_11, hh0⟩; rotate_left
  · refine PC.cond_false rfl h_11 ?_; refine PC.skip ?_; refine inA_n ?_; refine thA_n ?_; refine PC.seq ?_; refine PC.region ?_; refine PL.op rfl (Rd.loadBox rfl rfl rfl) ?_; refine PL.store rfl rfl rfl rfl rfl rfl rfl ?_; refine PL.nO [some ⟨.mx [sL r3.2.b, iA r3.2.p], 136, 0⟩, some ⟨.mx [iA r1.1.kind, iA r1.1.num, sA r1.1.text], 39, 0⟩, some ⟨.mx [iA r1.1.kind, iA r1.1.num, sA r1.1.text], 39, 0⟩] rfl ?_; refine PL.nil ?_; refine thA_n ?_; refine PC.ret ?_; obtain rfl := some_in hh0; exact FinA.mk (r := .agg [iA ((r1.1, r3.2).1.kind), iA ((r1.1, r3.2).1.num), sA ((r1.1, r3.2).1.text)]) (bl := [⟨.mx [sL ((r1.1, r3.2).2.b), iA ((r1.1, r3.2).2.p)], 136, 0⟩]) [some 0] (.inl rfl) rfl (rl := [.cell 2 39]) (.cellN rfl rfl rfl rfl .nil) rfl rfl rfl (.aggL ⟨.t _, .t _, .t _, trivial⟩) ⟨⟨_, rfl, rfl, rfl, .mx ⟨.t _, .t _, trivial⟩⟩, trivial⟩ ⟨rfl, rfl⟩
  refine PC.cond_true rfl h_11 ?_; obtain ⟨r12, h_13, hh0⟩ := bind_some hh0; refine PC.region ?_; refine PL.op rfl (Rd.moveP rfl) ?_; refine PL.er rfl (Er.ints [(-1 : Int), (3 : Int), (0 : Int)] rfl rfl (by decide) rfl) ?_; refine PL.callM false [0] (w_S_reader_one N r3.2 [(-1 : Int), (3 : Int), (0 : Int)] r12 h_13) rfl Tryz.call53 rfl ⟨.op rfl, .t _, trivial⟩ rfl ⟨⟨_, rfl, rfl, rfl, .mx ⟨.t _, .t _, trivial⟩⟩, trivial⟩ (fun h => by cases h) ?_; refine PL.nm (iA r12.1) [some ⟨.mx [sL r12.2.b, iA r12.2.p], 136, 0⟩, some ⟨.mx [iA (0 : Int), iA (0 : Int), sA ByteArray.empty], 39, 0⟩, some ⟨.mx [iA r1.1.kind, iA r1.1.num, sA r1.1.text], 39, 0⟩] rfl rfl ?_; refine PL.op rfl (Rd.fieldO rfl rfl) ?_; refine PL.store rfl rfl rfl rfl rfl rfl rfl ?_; refine PL.nO [some ⟨.mx [sL r12.2.b, iA r12.2.p], 136, 0⟩, some ⟨.mx [iA (0 : Int), iA (0 : Int), sA ByteArray.empty], 39, 0⟩, some ⟨.mx [iA r12.1, iA r1.1.num, sA r1.1.text], 39, 0⟩] rfl ?_; refine PL.nil ?_; refine inA_n ?_; refine thA_n ?_; refine PC.seq ?_; refine PC.region ?_; refine PL.op rfl (Rd.loadBox rfl rfl rfl) ?_; refine PL.store rfl rfl rfl rfl rfl rfl rfl ?_; refine PL.nO [some ⟨.mx [sL r12.2.b, iA r12.2.p], 136, 0⟩, some ⟨.mx [iA r12.1, iA r1.1.num, sA r1.1.text], 39, 0⟩, some ⟨.mx [iA r12.1, iA r1.1.num, sA r1.1.text], 39, 0⟩] rfl ?_; refine PL.nil ?_; refine thA_n ?_; refine PC.ret ?_; obtain rfl := some_in hh0; exact FinA.mk (r := .agg [iA (((I_Value.mk r12.1 r1.1.num r1.1.text), r12.2).1.kind), iA (((I_Value.mk r12.1 r1.1.num r1.1.text), r12.2).1.num), sA (((I_Value.mk r12.1 r1.1.num r1.1.text), r12.2).1.text)]) (bl := [⟨.mx [sL (((I_Value.mk r12.1 r1.1.num r1.1.text), r12.2).2.b), iA (((I_Value.mk r12.1 r1.1.num r1.1.text), r12.2).2.p)], 136, 0⟩]) [some 0] (.inl rfl) rfl (rl := [.cell 2 39]) (.cellN rfl rfl rfl rfl .nil) rfl rfl rfl (.aggL ⟨.t _, .t _, .t _, trivial⟩) ⟨⟨_, rfl, rfl, rfl, .mx ⟨.t _, .t _, trivial⟩⟩, trivial⟩ ⟨rfl, rfl⟩
def m_S_anyFormat_k1 (N : Nat) (v25 : (List UInt8)) (v26 : Int) (v27 : (List I_Column)) : Option ((List I_Column) × S_reader) :=
  some (v27, (S_reader.mk v25 v26))
def m_S_anyFormat_b1 (N : Nat) (v17 : (List UInt8)) (v18 : Int) (v19 : (List I_Column)) : Option (((List UInt8) × Int × (List I_Column)) ⊕ ((List UInt8) × Int × (List I_Column))) :=
  cond (decide ((v19.length : Int) < (6 : Int)))
    ((m_S_randomColumn N (S_reader.mk v17 v18)).bind fun r34 =>
    (appM 40 v19 [r34.1]).bind fun xs36 =>
    some (.inl (r34.2.b, r34.2.p, xs36)))
    (some (.inr (v17, v18, v19)))
def m_S_anyFormat (N : Nat) (p_r : S_reader) : Option ((List I_Column) × S_reader) :=
  (m_S_randomFormat N p_r).bind fun r1 =>
  (m_S_reader_pick N r1.2 (24 : Int)).bind fun r3 =>
  cond (decide (r3.1 = (0 : Int)))
    ((m_S_reader_one N r3.2 [(0 : Int), (3 : Int), (1 : Int)]).bind fun r6 =>
    (ixI r1.1 (0 : Int)).bind fun x8 =>
    some ((r1.1.set (0 : Int).toNat (I_Column.mk r6.1 x8.default)), r6.2))
    (cond (decide (r3.1 = (1 : Int)))
      ((m_S_anyValue N r3.2).bind fun r11 =>
      (ixI r1.1 (0 : Int)).bind fun x13 =>
      some ((r1.1.set (0 : Int).toNat (I_Column.mk x13.kind r11.1)), r11.2))
      (cond (decide (r3.1 = (2 : Int)))
        (some (([] : List I_Column), r3.2))
        (cond (decide (r3.1 = (3 : Int)))
          ((loopM (β := (List UInt8) × Int × (List I_Column)) (fun s : (List UInt8) × Int × (List I_Column) => m_S_anyFormat_b1 N s.1 s.2.1 s.2.2) N (r3.2.b, r3.2.p, r1.1)).bind fun e =>
          m_S_anyFormat_k1 N e.1 e.2.1 e.2.2)
          (some (r1.1, r3.2)))))
theorem w_S_anyFormat (N : Nat) (p_r : S_reader) (r : (List I_Column) × S_reader) (hh0 : m_S_anyFormat N p_r = some r) : FnX Tryz.prog 119 [⟨.mx [sL p_r.b, iA p_r.p], 136, 0⟩] [.op 0 0] (RE (.os 1 0 r.1.length) [⟨.mx [sL r.2.b, iA r.2.p], 136, 0⟩, ⟨.tr (eL r.1), 125, 4⟩]) := by
  unfold m_S_anyFormat at hh0; refine FnX.mk Tryz.func119 rfl rfl ?_; intro s hs; refine PC.seq ?_; refine PC.region ?_; refine PL.op rfl (Rd.asnT rfl) ?_; refine PL.nil ?_; refine thA_n ?_; refine PC.seq ?_; obtain ⟨r1, h_2, hh0⟩ := bind_some hh0; refine PC.region ?_; refine PL.op rfl (Rd.moveP rfl) ?_; refine PL.callM false [0] (w_S_randomFormat N p_r r1 h_2) rfl Tryz.call117 rfl ⟨.op rfl, trivial⟩ rfl ⟨⟨_, rfl, rfl, rfl, .mx ⟨.t _, .t _, trivial⟩⟩, trivial⟩ (fun h => by cases h) ?_; refine PL.nm (.os 1 0 r1.1.length) [some ⟨.mx [sL r1.2.b, iA r1.2.p], 136, 0⟩, some ⟨.tr (eL r1.1), 125, 4⟩] rfl rfl ?_; refine PL.op rfl (Rd.asnO rfl) ?_; refine PL.nil ?_; refine thA_n ?_; (iterate 2 refine PC.seq ?_); obtain ⟨r3, h_4, hh0⟩ := bind_some hh0; refine PC.region ?_; refine PL.op rfl (Rd.moveP rfl) ?_; refine PL.callM false [0] (w_S_reader_pick N r1.2 (24 : Int) r3 h_4) rfl Tryz.call67 rfl ⟨.op rfl, .t _, trivial⟩ rfl ⟨⟨_, rfl, rfl, rfl, .mx ⟨.t _, .t _, trivial⟩⟩, trivial⟩ (fun h => by cases h) ?_; refine PL.nm (iA r3.1) [some ⟨.mx [sL r3.2.b, iA r3.2.p], 136, 0⟩, some ⟨.tr (eL r1.1), 125, 4⟩] rfl rfl ?_; refine PL.nil ?_; refine thA_n ?_; refine PC.block ?_; refine PC.seq ?_; refine PC.region ?_; refine PL.op rfl (Rd.eql rfl rfl) ?_; refine PL.op rfl (Rd.asnT rfl) ?_; refine PL.nil ?_; refine thA_n ?_; rcases cond_some hh0 with ⟨h_5, hh0⟩ | ⟨h_5, hh0⟩
  · refine PC.cond_true rfl h_5 ?_; obtain ⟨r6, h_7, hh0⟩ := bind_some hh0; obtain ⟨x8, h_9, hh0⟩ := bind_some hh0; refine PC.region ?_; refine PL.op rfl (Rd.moveO rfl) ?_; refine PL.op rfl (Rd.moveP rfl) ?_; refine PL.er rfl (Er.ints [(0 : Int), (3 : Int), (1 : Int)] rfl rfl (by decide) rfl) ?_; refine PL.callM false [0] (w_S_reader_one N r3.2 [(0 : Int), (3 : Int), (1 : Int)] r6 h_7) rfl Tryz.call53 rfl ⟨.op rfl, .t _, trivial⟩ rfl ⟨⟨_, rfl, rfl, rfl, .mx ⟨.t _, .t _, trivial⟩⟩, trivial⟩ (fun h => by cases h) ?_; refine PL.nm (iA r6.1) [some ⟨.mx [sL r6.2.b, iA r6.2.p], 136, 0⟩, some ⟨.tr (eL r1.1), 125, 4⟩] rfl rfl ?_; refine PL.op rfl (Rd.ixOM rfl rfl rfl (ixI_lt h_9)) ?_; refine PL.op rfl (Rd.fieldO rfl rfl) ?_; refine PL.stFM (f := 0) (I_Column.mk r6.1 x8.default) rfl rfl rfl rfl h_9 rfl rfl ?_; refine PL.nO [some ⟨.mx [sL r6.2.b, iA r6.2.p], 136, 0⟩, some ⟨.tr (eL (r1.1.set (0 : Int).toNat (I_Column.mk r6.1 x8.default))), 125, 4⟩] rfl ?_; refine PL.nil ?_; refine inA_n ?_; refine thA_n ?_; refine PC.seq ?_; refine PC.region ?_; refine PL.op rfl (Rd.moveO rfl) ?_; refine PL.op rfl (Rd.asnO rfl) ?_; refine PL.nil ?_; refine thA_n ?_; refine PC.ret ?_; obtain rfl := some_in hh0; exact FinA.mk (r := .os 1 0 ((((r1.1.set (0 : Int).toNat (I_Column.mk r6.1 x8.default)), r6.2).1).length)) (bl := [⟨.mx [sL (((r1.1.set (0 : Int).toNat (I_Column.mk r6.1 x8.default)), r6.2).2.b), iA (((r1.1.set (0 : Int).toNat (I_Column.mk r6.1 x8.default)), r6.2).2.p)], 136, 0⟩, ⟨.tr (eL (((r1.1.set (0 : Int).toNat (I_Column.mk r6.1 x8.default)), r6.2).1)), 125, 4⟩]) [some 0, some 1] (.inl rfl) rfl (rl := [.tmp 2]) (.tmp .nil) rfl rfl rfl (.osE rfl (by simp only [List.length_set])) ⟨⟨_, rfl, rfl, rfl, .mx ⟨.t _, .t _, trivial⟩⟩, ⟨_, rfl, rfl, rfl, .tr _⟩, trivial⟩ ⟨rfl, rfl⟩
  refine PC.cond_false rfl h_5 ?_; refine PC.seq ?_; refine PC.region ?_; refine PL.op rfl (Rd.eql rfl rfl) ?_; refine PL.op rfl (Rd.asnT rfl) ?_; refine PL.nil ?_; refine thA_n ?_; rcases cond_some hh0 with ⟨h_10, hh0⟩ | ⟨h_10, hh0⟩
  · refine PC.cond_true rfl h_10 ?_; obtain ⟨r11, h_12, hh0⟩ := bind_some hh0; obtain ⟨x13, h_14, hh0⟩ := bind_some hh0; refine PC.region ?_; refine PL.op rfl (Rd.moveO rfl) ?_; refine PL.op rfl (Rd.moveP rfl) ?_; refine PL.callM false [0] (w_S_anyValue N r3.2 r11 h_12) rfl Tryz.call66 rfl ⟨.op rfl, trivial⟩ rfl ⟨⟨_, rfl, rfl, rfl, .mx ⟨.t _, .t _, trivial⟩⟩, trivial⟩ (fun h => by cases h) ?_; refine PL.nm (.agg [iA r11.1.kind, iA r11.1.num, sA r11.1.text]) [some ⟨.mx [sL r11.2.b, iA r11.2.p], 136, 0⟩, some ⟨.tr (eL r1.1), 125, 4⟩] rfl rfl ?_; refine PL.op rfl (Rd.ixOM rfl rfl rfl (ixI_lt h_14)) ?_; refine PL.op rfl (Rd.fieldO rfl rfl) ?_; refine PL.stFRM (f := 1) (cs := [.v (.int .i64 r11.1.kind), .v (.int .i64 r11.1.num), .v (.string r11.1.text)]) (I_Column.mk x13.kind r11.1) rfl rfl rfl rfl rfl rfl rfl h_14 rfl rfl ?_; refine PL.nO [some ⟨.mx [sL r11.2.b, iA r11.2.p], 136, 0⟩, some ⟨.tr (eL (r1.1.set (0 : Int).toNat (I_Column.mk x13.kind r11.1))), 125, 4⟩] rfl ?_; refine PL.nil ?_; refine inA_n ?_; refine thA_n ?_; refine PC.seq ?_; refine PC.region ?_; refine PL.op rfl (Rd.moveO rfl) ?_; refine PL.op rfl (Rd.asnO rfl) ?_; refine PL.nil ?_; refine thA_n ?_; refine PC.ret ?_; obtain rfl := some_in hh0; exact FinA.mk (r := .os 1 0 ((((r1.1.set (0 : Int).toNat (I_Column.mk x13.kind r11.1)), r11.2).1).length)) (bl := [⟨.mx [sL (((r1.1.set (0 : Int).toNat (I_Column.mk x13.kind r11.1)), r11.2).2.b), iA (((r1.1.set (0 : Int).toNat (I_Column.mk x13.kind r11.1)), r11.2).2.p)], 136, 0⟩, ⟨.tr (eL (((r1.1.set (0 : Int).toNat (I_Column.mk x13.kind r11.1)), r11.2).1)), 125, 4⟩]) [some 0, some 1] (.inl rfl) rfl (rl := [.tmp 2]) (.tmp .nil) rfl rfl rfl (.osE rfl (by simp only [List.length_set])) ⟨⟨_, rfl, rfl, rfl, .mx ⟨.t _, .t _, trivial⟩⟩, ⟨_, rfl, rfl, rfl, .tr _⟩, trivial⟩ ⟨rfl, rfl⟩
  refine PC.cond_false rfl h_10 ?_; refine PC.seq ?_; refine PC.region ?_; refine PL.op rfl (Rd.eql rfl rfl) ?_; refine PL.op rfl (Rd.asnT rfl) ?_; refine PL.nil ?_; refine thA_n ?_; rcases cond_some hh0 with ⟨h_15, hh0⟩ | ⟨h_15, hh0⟩
  · refine PC.cond_true rfl h_15 ?_; refine PC.region ?_; refine PL.ef rfl (Ef.lit0M I_Column) ?_; refine PL.nm (.os 2 0 0) [some ⟨.mx [sL r3.2.b, iA r3.2.p], 136, 0⟩, some ⟨.tr (eL r1.1), 125, 4⟩, some ⟨.tr (eL ([] : List I_Column)), 125, 4⟩] rfl rfl ?_; refine PL.op rfl (Rd.asnO rfl) ?_; refine PL.nil ?_; refine inA_n ?_; refine thA_n ?_; refine PC.seq ?_; refine PC.region ?_; refine PL.op rfl (Rd.moveO rfl) ?_; refine PL.op rfl (Rd.asnO rfl) ?_; refine PL.nil ?_; refine thA_n ?_; refine PC.ret ?_; obtain rfl := some_in hh0; exact FinA.mk (r := .os 1 0 (((([] : List I_Column), r3.2).1).length)) (bl := [⟨.mx [sL ((([] : List I_Column), r3.2).2.b), iA ((([] : List I_Column), r3.2).2.p)], 136, 0⟩, ⟨.tr (eL ((([] : List I_Column), r3.2).1)), 125, 4⟩]) [some 0, some 2] (.inl rfl) rfl (rl := [.tmp 2]) (.tmp .nil) rfl rfl rfl (.os rfl) ⟨⟨_, rfl, rfl, rfl, .mx ⟨.t _, .t _, trivial⟩⟩, ⟨_, rfl, rfl, rfl, .tr _⟩, trivial⟩ ⟨rfl, rfl⟩
  refine PC.cond_false rfl h_15 ?_; refine PC.seq ?_; refine PC.region ?_; refine PL.op rfl (Rd.eql rfl rfl) ?_; refine PL.op rfl (Rd.asnT rfl) ?_; refine PL.nil ?_; refine thA_n ?_; rcases cond_some hh0 with ⟨h_16, hh0⟩ | ⟨h_16, hh0⟩; rotate_left
  · refine PC.cond_false rfl h_16 ?_; refine PC.skip ?_; refine inA_n ?_; refine thA_n ?_; refine PC.seq ?_; refine PC.region ?_; refine PL.op rfl (Rd.moveO rfl) ?_; refine PL.op rfl (Rd.asnO rfl) ?_; refine PL.nil ?_; refine thA_n ?_; refine PC.ret ?_; obtain rfl := some_in hh0; exact FinA.mk (r := .os 1 0 (((r1.1, r3.2).1).length)) (bl := [⟨.mx [sL ((r1.1, r3.2).2.b), iA ((r1.1, r3.2).2.p)], 136, 0⟩, ⟨.tr (eL ((r1.1, r3.2).1)), 125, 4⟩]) [some 0, some 1] (.inl rfl) rfl (rl := [.tmp 2]) (.tmp .nil) rfl rfl rfl (.os rfl) ⟨⟨_, rfl, rfl, rfl, .mx ⟨.t _, .t _, trivial⟩⟩, ⟨_, rfl, rfl, rfl, .tr _⟩, trivial⟩ ⟨rfl, rfl⟩
  refine PC.cond_true rfl h_16 ?_; obtain ⟨o28, h_29, hh0⟩ := bind_some hh0; refine PC.cutE hs (fun x : (List UInt8) × Int × (List I_Column) => [(3, .os 1 0 x.2.2.length)]) (fun x => [⟨.mx [sL x.1, iA x.2.1], 136, 0⟩, ⟨.tr (eL x.2.2), 125, 4⟩]) (fun x => m_S_anyFormat_k1 N x.1 x.2.1 x.2.2 = some r) ?_ ?_
  · refine PC.block ?_; refine PC.loop hs (fun x : Nat × ((List UInt8) × Int × (List I_Column)) => [(0, .op 0 0), (3, .os 1 0 x.2.2.2.length)]) (fun x => [⟨.mx [sL x.2.1, iA x.2.2.1], 136, 0⟩, ⟨.tr (eL x.2.2.2), 125, 4⟩]) (fun x => loopM (β := (List UInt8) × Int × (List I_Column)) (fun s : (List UInt8) × Int × (List I_Column) => m_S_anyFormat_b1 N s.1 s.2.1 s.2.2) x.1 x.2 = some o28) (fun x => x.1) (N, (r3.2.b, r3.2.p, r1.1)) [some 0, some 1] ⟨rfl, rfl, ⟨⟨_, rfl, rfl, rfl, .mx ⟨.t _, .t _, trivial⟩⟩, ⟨_, rfl, rfl, rfl, .tr _⟩, trivial⟩, ⟨.op rfl, .os rfl, trivial⟩⟩ h_29 ?_
    rintro ⟨f30_, v17, v18, v19⟩ h_32
    obtain ⟨f30, y31, rfl, hh1, kk1⟩ := loopM_some h_32
    replace hh1 : m_S_anyFormat_b1 N v17 v18 v19 = some y31 := hh1
    unfold m_S_anyFormat_b1 at hh1; (iterate 2 refine PC.seq ?_); refine PC.region ?_; refine PL.op rfl (Rd.moveO rfl) ?_; refine PL.op rfl (Rd.lenO rfl rfl) ?_; refine PL.op rfl (Rd.lss rfl rfl) ?_; refine PL.nil ?_; refine thA_n ?_; rcases cond_some hh1 with ⟨h_33, hh1⟩ | ⟨h_33, hh1⟩; rotate_left
    · refine PC.cond_false rfl h_33 ?_; refine PC.exit ?_; (iterate 2 refine thA_e ?_); refine inA_eq rfl ?_; refine thA_n ?_; obtain rfl := some_in hh1; obtain rfl : ((v17, v18, v19) : (List UInt8) × Int × (List I_Column)) = o28 := kk1; exact ⟨(v17, v18, v19), hh0, [some 0, some 1], ⟨rfl, rfl, ⟨⟨_, rfl, rfl, rfl, .mx ⟨.t _, .t _, trivial⟩⟩, ⟨_, rfl, rfl, rfl, .tr _⟩, trivial⟩, ⟨.os rfl, trivial⟩⟩⟩
    refine PC.cond_true rfl h_33 ?_; refine PC.skip ?_; refine thA_n ?_; refine PC.block ?_; obtain ⟨r34, h_35, hh1⟩ := bind_some hh1; obtain ⟨xs36, h_37, hh1⟩ := bind_some hh1; refine PC.region ?_; refine PL.op rfl (Rd.moveO rfl) ?_; refine PL.op rfl (Rd.moveP rfl) ?_; refine PL.callM false [0] (w_S_randomColumn N (S_reader.mk v17 v18) r34 h_35) rfl Tryz.call146 rfl ⟨.op rfl, trivial⟩ rfl ⟨⟨_, rfl, rfl, rfl, .mx ⟨.t _, .t _, trivial⟩⟩, trivial⟩ (fun h => by cases h) ?_; refine PL.nm (.agg [iA r34.1.kind, iA r34.1.default.kind, iA r34.1.default.num, sA r34.1.default.text]) [some ⟨.mx [sL r34.2.b, iA r34.2.p], 136, 0⟩, some ⟨.tr (eL v19), 125, 4⟩] rfl rfl ?_; refine PL.ef rfl (Ef.litM (α := I_Column) [r34.1] [_] rfl rfl (by decide) rfl rfl rfl rfl) ?_; refine PL.nm (.os 2 0 1) [some ⟨.mx [sL r34.2.b, iA r34.2.p], 136, 0⟩, some ⟨.tr (eL v19), 125, 4⟩, some ⟨.tr (eL [r34.1]), 125, 4⟩] rfl rfl ?_; refine PL.apM hs rfl rfl rfl rfl (SrcA.ownE rfl rfl rfl) rfl rfl rfl rfl h_37 ?_; refine PL.nm (.os 3 0 xs36.length) [some ⟨.mx [sL r34.2.b, iA r34.2.p], 136, 0⟩, none, some ⟨.tr (eL [r34.1]), 125, 4⟩, some ⟨.tr (eL xs36), 125, 4⟩] rfl rfl ?_; refine PL.op rfl (Rd.asnO rfl) ?_; refine PL.nil ?_; refine inA_n ?_; obtain rfl := some_in hh1; refine thA_n ?_; exact ⟨(f30, (r34.2.b, r34.2.p, xs36)), Nat.lt_succ_self _, kk1, [some 0, some 3], ⟨rfl, rfl, ⟨⟨_, rfl, rfl, rfl, .mx ⟨.t _, .t _, trivial⟩⟩, ⟨_, rfl, rfl, rfl, .tr _⟩, trivial⟩, ⟨.op rfl, .os rfl, trivial⟩⟩⟩
  clear hh0
  rintro ⟨v25, v26, v27⟩ hh0
  replace hh0 : m_S_anyFormat_k1 N v25 v26 v27 = some r := hh0
  unfold m_S_anyFormat_k1 at hh0; refine inA_n ?_; refine thA_n ?_; refine PC.seq ?_; refine PC.region ?_; refine PL.op rfl (Rd.moveO rfl) ?_; refine PL.op rfl (Rd.asnO rfl) ?_; refine PL.nil ?_; refine thA_n ?_; refine PC.ret ?_; obtain rfl := some_in hh0; exact FinA.mk (r := .os 1 0 (((v27, (S_reader.mk v25 v26)).1).length)) (bl := [⟨.mx [sL ((v27, (S_reader.mk v25 v26)).2.b), iA ((v27, (S_reader.mk v25 v26)).2.p)], 136, 0⟩, ⟨.tr (eL ((v27, (S_reader.mk v25 v26)).1)), 125, 4⟩]) [some 0, some 1] (.inl rfl) rfl (rl := [.tmp 2]) (.tmp .nil) rfl rfl rfl (.os rfl) ⟨⟨_, rfl, rfl, rfl, .mx ⟨.t _, .t _, trivial⟩⟩, ⟨_, rfl, rfl, rfl, .tr _⟩, trivial⟩ ⟨rfl, rfl⟩
def m_S_anyChange (N : Nat) (p_r : S_reader) (p_f : (List I_Column)) : Option (I_Change × S_reader) :=
  (m_S_copyColumns N p_f).bind fun r1 =>
  (appM 40 r1 [(I_Column.mk (1 : Int) (I_Value.mk (0 : Int) (0 : Int) ByteArray.empty))]).bind fun xs3 =>
  (V.subM xs3 (0 : Int) (max (p_f.length : Int) (1 : Int))).bind fun xs5 =>
  (m_S_randomChange N p_r xs5).bind fun r7 =>
  (m_S_reader_pick N r7.2 (16 : Int)).bind fun r9 =>
  cond (decide (r9.1 = (0 : Int)))
    ((m_S_reader_one N r9.2 [(0 : Int), (4 : Int), (3 : Int)]).bind fun r12 =>
    some ((I_Change.mk r12.1 r7.1.at_ r7.1.column), r12.2))
    (cond (decide (r9.1 = (1 : Int)))
      ((chk ((p_f.length : Int) + (1 : Int))).bind fun n15 =>
      (m_S_reader_one N r9.2 [(-1 : Int), (p_f.length : Int), n15]).bind fun r17 =>
      some ((I_Change.mk r7.1.kind r17.1 r7.1.column), r17.2))
      (some (r7.1, r9.2)))
theorem w_S_anyChange (N : Nat) (p_r : S_reader) (p_f : (List I_Column)) (r : I_Change × S_reader) (hh0 : m_S_anyChange N p_r p_f = some r) : FnX Tryz.prog 120 [⟨.mx [sL p_r.b, iA p_r.p], 136, 0⟩] [.op 0 0, sL p_f] (RE (.agg [iA r.1.kind, iA r.1.at_, iA r.1.column.kind, iA r.1.column.default.kind, iA r.1.column.default.num, sA r.1.column.default.text]) [⟨.mx [sL r.2.b, iA r.2.p], 136, 0⟩]) := by
  unfold m_S_anyChange at hh0; refine FnX.mk Tryz.func120 rfl rfl ?_; intro s hs; refine PC.seq ?_; refine PC.region ?_; refine PL.ef rfl (Ef.alloc rfl rfl) ?_; refine PL.nm (.op 1 0) [some ⟨.mx [sL p_r.b, iA p_r.p], 136, 0⟩, some ⟨.mx [iA (0 : Int), iA (0 : Int), iA (0 : Int), iA (0 : Int), iA (0 : Int), sA ByteArray.empty], 128, 0⟩] rfl rfl ?_; refine PL.nil ?_; refine thA_n ?_; refine PC.seq ?_; obtain ⟨r1, h_2, hh0⟩ := bind_some hh0; obtain ⟨xs3, h_4, hh0⟩ := bind_some hh0; obtain ⟨xs5, h_6, hh0⟩ := bind_some hh0; obtain ⟨r7, h_8, hh0⟩ := bind_some hh0; refine PC.region ?_; refine PL.op rfl (Rd.moveP rfl) ?_; refine PL.op rfl (Rd.moveT rfl) ?_; refine PL.callM false [] (w_S_copyColumns N p_f r1 h_2) rfl Tryz.call109 rfl ⟨.t _, trivial⟩ rfl trivial (fun h => by cases h) ?_; refine PL.nm (.os 2 0 r1.length) [some ⟨.mx [sL p_r.b, iA p_r.p], 136, 0⟩, some ⟨.mx [iA (0 : Int), iA (0 : Int), iA (0 : Int), iA (0 : Int), iA (0 : Int), sA ByteArray.empty], 128, 0⟩, some ⟨.tr (eL r1), 125, 4⟩] rfl rfl ?_; refine PL.op rfl (Rd.build rfl rfl rfl rfl) ?_; refine PL.ef rfl (Ef.litM (α := I_Column) [(I_Column.mk (1 : Int) (I_Value.mk (0 : Int) (0 : Int) ByteArray.empty))] [_] rfl rfl (by decide) rfl rfl rfl rfl) ?_; refine PL.nm (.os 3 0 1) [some ⟨.mx [sL p_r.b, iA p_r.p], 136, 0⟩, some ⟨.mx [iA (0 : Int), iA (0 : Int), iA (0 : Int), iA (0 : Int), iA (0 : Int), sA ByteArray.empty], 128, 0⟩, some ⟨.tr (eL r1), 125, 4⟩, some ⟨.tr (eL [(I_Column.mk (1 : Int) (I_Value.mk (0 : Int) (0 : Int) ByteArray.empty))]), 125, 4⟩] rfl rfl ?_; refine PL.apM hs rfl rfl rfl rfl (SrcA.ownE rfl rfl rfl) rfl rfl rfl rfl h_4 ?_; refine PL.nm (.os 4 0 xs3.length) [some ⟨.mx [sL p_r.b, iA p_r.p], 136, 0⟩, some ⟨.mx [iA (0 : Int), iA (0 : Int), iA (0 : Int), iA (0 : Int), iA (0 : Int), sA ByteArray.empty], 128, 0⟩, none, some ⟨.tr (eL [(I_Column.mk (1 : Int) (I_Value.mk (0 : Int) (0 : Int) ByteArray.empty))]), 125, 4⟩, some ⟨.tr (eL xs3), 125, 4⟩] rfl rfl ?_; refine PL.op rfl (Rd.moveT rfl) ?_; refine PL.op rfl (Rd.lenT rfl) ?_; refine PL.op rfl (Rd.max2 rfl rfl) ?_; refine PL.cutM rfl rfl rfl rfl rfl h_6 ?_; refine PL.nm (.os 4 0 xs5.length) [some ⟨.mx [sL p_r.b, iA p_r.p], 136, 0⟩, some ⟨.mx [iA (0 : Int), iA (0 : Int), iA (0 : Int), iA (0 : Int), iA (0 : Int), sA ByteArray.empty], 128, 0⟩, none, some ⟨.tr (eL [(I_Column.mk (1 : Int) (I_Value.mk (0 : Int) (0 : Int) ByteArray.empty))]), 125, 4⟩, some ⟨.tr (eL xs5), 125, 4⟩] rfl rfl ?_; refine PL.frz hs 4 5 [(15, sL xs5)] [some ⟨.mx [sL p_r.b, iA p_r.p], 136, 0⟩, some ⟨.mx [iA (0 : Int), iA (0 : Int), iA (0 : Int), iA (0 : Int), iA (0 : Int), sA ByteArray.empty], 128, 0⟩, none, some ⟨.tr (eL [(I_Column.mk (1 : Int) (I_Value.mk (0 : Int) (0 : Int) ByteArray.empty))]), 125, 4⟩, none] rfl rfl ⟨(.own rfl (by decide) rfl rfl), trivial⟩ ⟨⟨rfl, .inl rfl⟩, ⟨rfl, .inl rfl⟩, ⟨rfl, .inl rfl⟩, trivial⟩ ?_; refine PL.callM false [0] (w_S_randomChange N p_r xs5 r7 h_8) rfl Tryz.call118 rfl ⟨.op rfl, .t _, trivial⟩ rfl ⟨⟨_, rfl, rfl, rfl, .mx ⟨.t _, .t _, trivial⟩⟩, trivial⟩ (fun h => by cases h) ?_; refine PL.nm (.agg [iA r7.1.kind, iA r7.1.at_, iA r7.1.column.kind, iA r7.1.column.default.kind, iA r7.1.column.default.num, sA r7.1.column.default.text]) [some ⟨.mx [sL r7.2.b, iA r7.2.p], 136, 0⟩, some ⟨.mx [iA (0 : Int), iA (0 : Int), iA (0 : Int), iA (0 : Int), iA (0 : Int), sA ByteArray.empty], 128, 0⟩, none, some ⟨.tr (eL [(I_Column.mk (1 : Int) (I_Value.mk (0 : Int) (0 : Int) ByteArray.empty))]), 125, 4⟩, none] rfl rfl ?_; refine PL.ef rfl (Ef.alloc rfl rfl) ?_; refine PL.nm (.op 5 0) [some ⟨.mx [sL r7.2.b, iA r7.2.p], 136, 0⟩, some ⟨.mx [iA (0 : Int), iA (0 : Int), iA (0 : Int), iA (0 : Int), iA (0 : Int), sA ByteArray.empty], 128, 0⟩, none, some ⟨.tr (eL [(I_Column.mk (1 : Int) (I_Value.mk (0 : Int) (0 : Int) ByteArray.empty))]), 125, 4⟩, none, some ⟨.mx [iA (0 : Int), iA (0 : Int), iA (0 : Int), iA (0 : Int), iA (0 : Int), sA ByteArray.empty], 128, 0⟩] rfl rfl ?_; refine PL.store rfl rfl rfl rfl rfl rfl rfl ?_; refine PL.nO [some ⟨.mx [sL r7.2.b, iA r7.2.p], 136, 0⟩, some ⟨.mx [iA (0 : Int), iA (0 : Int), iA (0 : Int), iA (0 : Int), iA (0 : Int), sA ByteArray.empty], 128, 0⟩, none, some ⟨.tr (eL [(I_Column.mk (1 : Int) (I_Value.mk (0 : Int) (0 : Int) ByteArray.empty))]), 125, 4⟩, none, some ⟨.mx [iA r7.1.kind, iA r7.1.at_, iA r7.1.column.kind, iA r7.1.column.default.kind, iA r7.1.column.default.num, sA r7.1.column.default.text], 128, 0⟩] rfl ?_; refine PL.nil ?_; refine thA_n ?_; (iterate 2 refine PC.seq ?_); obtain ⟨r9, h_10, hh0⟩ := bind_some hh0; refine PC.region ?_; refine PL.op rfl (Rd.moveP rfl) ?_; refine PL.callM false [0] (w_S_reader_pick N r7.2 (16 : Int) r9 h_10) rfl Tryz.call67 rfl ⟨.op rfl, .t _, trivial⟩ rfl ⟨⟨_, rfl, rfl, rfl, .mx ⟨.t _, .t _, trivial⟩⟩, trivial⟩ (fun h => by cases h) ?_; refine PL.nm (iA r9.1) [some ⟨.mx [sL r9.2.b, iA r9.2.p], 136, 0⟩, some ⟨.mx [iA (0 : Int), iA (0 : Int), iA (0 : Int), iA (0 : Int), iA (0 : Int), sA ByteArray.empty], 128, 0⟩, none, some ⟨.tr (eL [(I_Column.mk (1 : Int) (I_Value.mk (0 : Int) (0 : Int) ByteArray.empty))]), 125, 4⟩, none, some ⟨.mx [iA r7.1.kind, iA r7.1.at_, iA r7.1.column.kind, iA r7.1.column.default.kind, iA r7.1.column.default.num, sA r7.1.column.default.text], 128, 0⟩] rfl rfl ?_; refine PL.nil ?_; refine thA_n ?_; refine PC.block ?_; refine PC.seq ?_; refine PC.region ?_; refine PL.op rfl (Rd.eql rfl rfl) ?_; refine PL.op rfl (Rd.asnT rfl) ?_; refine PL.nil ?_; refine thA_n ?_; rcases cond_some hh0 with ⟨h_11, hh0⟩ | ⟨h_11, hh0⟩
  · refine PC.cond_true rfl h_11 ?_; obtain ⟨r12, h_13, hh0⟩ := bind_some hh0; refine PC.region ?_; refine PL.op rfl (Rd.moveP rfl) ?_; refine PL.er rfl (Er.ints [(0 : Int), (4 : Int), (3 : Int)] rfl rfl (by decide) rfl) ?_; refine PL.callM false [0] (w_S_reader_one N r9.2 [(0 : Int), (4 : Int), (3 : Int)] r12 h_13) rfl Tryz.call53 rfl ⟨.op rfl, .t _, trivial⟩ rfl ⟨⟨_, rfl, rfl, rfl, .mx ⟨.t _, .t _, trivial⟩⟩, trivial⟩ (fun h => by cases h) ?_; refine PL.nm (iA r12.1) [some ⟨.mx [sL r12.2.b, iA r12.2.p], 136, 0⟩, some ⟨.mx [iA (0 : Int), iA (0 : Int), iA (0 : Int), iA (0 : Int), iA (0 : Int), sA ByteArray.empty], 128, 0⟩, none, some ⟨.tr (eL [(I_Column.mk (1 : Int) (I_Value.mk (0 : Int) (0 : Int) ByteArray.empty))]), 125, 4⟩, none, some ⟨.mx [iA r7.1.kind, iA r7.1.at_, iA r7.1.column.kind, iA r7.1.column.default.kind, iA r7.1.column.default.num, sA r7.1.column.default.text], 128, 0⟩] rfl rfl ?_; refine PL.op rfl (Rd.fieldO rfl rfl) ?_; refine PL.store rfl rfl rfl rfl rfl rfl rfl ?_; refine PL.nO [some ⟨.mx [sL r12.2.b, iA r12.2.p], 136, 0⟩, some ⟨.mx [iA (0 : Int), iA (0 : Int), iA (0 : Int), iA (0 : Int), iA (0 : Int), sA ByteArray.empty], 128, 0⟩, none, some ⟨.tr (eL [(I_Column.mk (1 : Int) (I_Value.mk (0 : Int) (0 : Int) ByteArray.empty))]), 125, 4⟩, none, some ⟨.mx [iA r12.1, iA r7.1.at_, iA r7.1.column.kind, iA r7.1.column.default.kind, iA r7.1.column.default.num, sA r7.1.column.default.text], 128, 0⟩] rfl ?_; refine PL.nil ?_; refine inA_n ?_; refine thA_n ?_; refine PC.seq ?_; refine PC.region ?_; refine PL.op rfl (Rd.loadBox rfl rfl rfl) ?_; refine PL.store rfl rfl rfl rfl rfl rfl rfl ?_; refine PL.nO [some ⟨.mx [sL r12.2.b, iA r12.2.p], 136, 0⟩, some ⟨.mx [iA r12.1, iA r7.1.at_, iA r7.1.column.kind, iA r7.1.column.default.kind, iA r7.1.column.default.num, sA r7.1.column.default.text], 128, 0⟩, none, some ⟨.tr (eL [(I_Column.mk (1 : Int) (I_Value.mk (0 : Int) (0 : Int) ByteArray.empty))]), 125, 4⟩, none, some ⟨.mx [iA r12.1, iA r7.1.at_, iA r7.1.column.kind, iA r7.1.column.default.kind, iA r7.1.column.default.num, sA r7.1.column.default.text], 128, 0⟩] rfl ?_; refine PL.nil ?_; refine thA_n ?_; refine PC.ret ?_; obtain rfl := some_in hh0; exact FinA.mk (r := .agg [iA (((I_Change.mk r12.1 r7.1.at_ r7.1.column), r12.2).1.kind), iA (((I_Change.mk r12.1 r7.1.at_ r7.1.column), r12.2).1.at_), iA (((I_Change.mk r12.1 r7.1.at_ r7.1.column), r12.2).1.column.kind), iA (((I_Change.mk r12.1 r7.1.at_ r7.1.column), r12.2).1.column.default.kind), iA (((I_Change.mk r12.1 r7.1.at_ r7.1.column), r12.2).1.column.default.num), sA (((I_Change.mk r12.1 r7.1.at_ r7.1.column), r12.2).1.column.default.text)]) (bl := [⟨.mx [sL (((I_Change.mk r12.1 r7.1.at_ r7.1.column), r12.2).2.b), iA (((I_Change.mk r12.1 r7.1.at_ r7.1.column), r12.2).2.p)], 136, 0⟩]) [some 0] (.inl rfl) rfl (rl := [.cell 4 128]) (.cellN rfl rfl rfl rfl .nil) rfl rfl rfl (.aggL ⟨.t _, .t _, .t _, .t _, .t _, .t _, trivial⟩) ⟨⟨_, rfl, rfl, rfl, .mx ⟨.t _, .t _, trivial⟩⟩, trivial⟩ ⟨rfl, rfl⟩
  refine PC.cond_false rfl h_11 ?_; refine PC.seq ?_; refine PC.region ?_; refine PL.op rfl (Rd.eql rfl rfl) ?_; refine PL.op rfl (Rd.asnT rfl) ?_; refine PL.nil ?_; refine thA_n ?_; rcases cond_some hh0 with ⟨h_14, hh0⟩ | ⟨h_14, hh0⟩; rotate_left
  · refine PC.cond_false rfl h_14 ?_; refine PC.skip ?_; refine inA_n ?_; refine thA_n ?_; refine PC.seq ?_; refine PC.region ?_; refine PL.op rfl (Rd.loadBox rfl rfl rfl) ?_; refine PL.store rfl rfl rfl rfl rfl rfl rfl ?_; refine PL.nO [some ⟨.mx [sL r9.2.b, iA r9.2.p], 136, 0⟩, some ⟨.mx [iA r7.1.kind, iA r7.1.at_, iA r7.1.column.kind, iA r7.1.column.default.kind, iA r7.1.column.default.num, sA r7.1.column.default.text], 128, 0⟩, none, some ⟨.tr (eL [(I_Column.mk (1 : Int) (I_Value.mk (0 : Int) (0 : Int) ByteArray.empty))]), 125, 4⟩, none, some ⟨.mx [iA r7.1.kind, iA r7.1.at_, iA r7.1.column.kind, iA r7.1.column.default.kind, iA r7.1.column.default.num, sA r7.1.column.default.text], 128, 0⟩] rfl ?_; refine PL.nil ?_; refine thA_n ?_; refine PC.ret ?_; obtain rfl := some_in hh0; exact FinA.mk (r := .agg [iA ((r7.1, r9.2).1.kind), iA ((r7.1, r9.2).1.at_), iA ((r7.1, r9.2).1.column.kind), iA ((r7.1, r9.2).1.column.default.kind), iA ((r7.1, r9.2).1.column.default.num), sA ((r7.1, r9.2).1.column.default.text)]) (bl := [⟨.mx [sL ((r7.1, r9.2).2.b), iA ((r7.1, r9.2).2.p)], 136, 0⟩]) [some 0] (.inl rfl) rfl (rl := [.cell 4 128]) (.cellN rfl rfl rfl rfl .nil) rfl rfl rfl (.aggL ⟨.t _, .t _, .t _, .t _, .t _, .t _, trivial⟩) ⟨⟨_, rfl, rfl, rfl, .mx ⟨.t _, .t _, trivial⟩⟩, trivial⟩ ⟨rfl, rfl⟩
  refine PC.cond_true rfl h_14 ?_; obtain ⟨n15, h_16, hh0⟩ := bind_some hh0; obtain ⟨r17, h_18, hh0⟩ := bind_some hh0; refine PC.region ?_; refine PL.op rfl (Rd.moveP rfl) ?_; refine PL.op rfl (Rd.moveT rfl) ?_; refine PL.op rfl (Rd.lenT rfl) ?_; refine PL.op rfl (Rd.moveT rfl) ?_; refine PL.op rfl (Rd.lenT rfl) ?_; refine PL.op rfl (Rd.addM rfl rfl h_16) ?_; refine PL.ef rfl (Ef.litM (α := Int) [(-1 : Int), (p_f.length : Int), n15] [_, _, _] rfl rfl (by decide) rfl rfl rfl rfl) ?_; refine PL.nm (.os 6 0 3) [some ⟨.mx [sL r9.2.b, iA r9.2.p], 136, 0⟩, some ⟨.mx [iA (0 : Int), iA (0 : Int), iA (0 : Int), iA (0 : Int), iA (0 : Int), sA ByteArray.empty], 128, 0⟩, none, some ⟨.tr (eL [(I_Column.mk (1 : Int) (I_Value.mk (0 : Int) (0 : Int) ByteArray.empty))]), 125, 4⟩, none, some ⟨.mx [iA r7.1.kind, iA r7.1.at_, iA r7.1.column.kind, iA r7.1.column.default.kind, iA r7.1.column.default.num, sA r7.1.column.default.text], 128, 0⟩, some ⟨.tr (eL [(-1 : Int), (p_f.length : Int), n15]), 3, 1⟩] rfl rfl ?_; refine PL.frz hs 6 7 [(33, sL [(-1 : Int), (p_f.length : Int), n15])] [some ⟨.mx [sL r9.2.b, iA r9.2.p], 136, 0⟩, some ⟨.mx [iA (0 : Int), iA (0 : Int), iA (0 : Int), iA (0 : Int), iA (0 : Int), sA ByteArray.empty], 128, 0⟩, none, some ⟨.tr (eL [(I_Column.mk (1 : Int) (I_Value.mk (0 : Int) (0 : Int) ByteArray.empty))]), 125, 4⟩, none, some ⟨.mx [iA r7.1.kind, iA r7.1.at_, iA r7.1.column.kind, iA r7.1.column.default.kind, iA r7.1.column.default.num, sA r7.1.column.default.text], 128, 0⟩, none] rfl rfl ⟨(.own rfl (by decide) rfl rfl), trivial⟩ ⟨⟨rfl, .inl rfl⟩, ⟨rfl, .inl rfl⟩, ⟨rfl, .inl rfl⟩, ⟨rfl, .inl rfl⟩, trivial⟩ ?_; refine PL.callM false [0] (w_S_reader_one N r9.2 [(-1 : Int), (p_f.length : Int), n15] r17 h_18) rfl Tryz.call53 rfl ⟨.op rfl, .t _, trivial⟩ rfl ⟨⟨_, rfl, rfl, rfl, .mx ⟨.t _, .t _, trivial⟩⟩, trivial⟩ (fun h => by cases h) ?_; refine PL.nm (iA r17.1) [some ⟨.mx [sL r17.2.b, iA r17.2.p], 136, 0⟩, some ⟨.mx [iA (0 : Int), iA (0 : Int), iA (0 : Int), iA (0 : Int), iA (0 : Int), sA ByteArray.empty], 128, 0⟩, none, some ⟨.tr (eL [(I_Column.mk (1 : Int) (I_Value.mk (0 : Int) (0 : Int) ByteArray.empty))]), 125, 4⟩, none, some ⟨.mx [iA r7.1.kind, iA r7.1.at_, iA r7.1.column.kind, iA r7.1.column.default.kind, iA r7.1.column.default.num, sA r7.1.column.default.text], 128, 0⟩, none] rfl rfl ?_; refine PL.op rfl (Rd.fieldO rfl rfl) ?_; refine PL.store rfl rfl rfl rfl rfl rfl rfl ?_; refine PL.nO [some ⟨.mx [sL r17.2.b, iA r17.2.p], 136, 0⟩, some ⟨.mx [iA (0 : Int), iA (0 : Int), iA (0 : Int), iA (0 : Int), iA (0 : Int), sA ByteArray.empty], 128, 0⟩, none, some ⟨.tr (eL [(I_Column.mk (1 : Int) (I_Value.mk (0 : Int) (0 : Int) ByteArray.empty))]), 125, 4⟩, none, some ⟨.mx [iA r7.1.kind, iA r17.1, iA r7.1.column.kind, iA r7.1.column.default.kind, iA r7.1.column.default.num, sA r7.1.column.default.text], 128, 0⟩, none] rfl ?_; refine PL.nil ?_; refine inA_n ?_; refine thA_n ?_; refine PC.seq ?_; refine PC.region ?_; refine PL.op rfl (Rd.loadBox rfl rfl rfl) ?_; refine PL.store rfl rfl rfl rfl rfl rfl rfl ?_; refine PL.nO [some ⟨.mx [sL r17.2.b, iA r17.2.p], 136, 0⟩, some ⟨.mx [iA r7.1.kind, iA r17.1, iA r7.1.column.kind, iA r7.1.column.default.kind, iA r7.1.column.default.num, sA r7.1.column.default.text], 128, 0⟩, none, some ⟨.tr (eL [(I_Column.mk (1 : Int) (I_Value.mk (0 : Int) (0 : Int) ByteArray.empty))]), 125, 4⟩, none, some ⟨.mx [iA r7.1.kind, iA r17.1, iA r7.1.column.kind, iA r7.1.column.default.kind, iA r7.1.column.default.num, sA r7.1.column.default.text], 128, 0⟩, none] rfl ?_; refine PL.nil ?_; refine thA_n ?_; refine PC.ret ?_; obtain rfl := some_in hh0; exact FinA.mk (r := .agg [iA (((I_Change.mk r7.1.kind r17.1 r7.1.column), r17.2).1.kind), iA (((I_Change.mk r7.1.kind r17.1 r7.1.column), r17.2).1.at_), iA (((I_Change.mk r7.1.kind r17.1 r7.1.column), r17.2).1.column.kind), iA (((I_Change.mk r7.1.kind r17.1 r7.1.column), r17.2).1.column.default.kind), iA (((I_Change.mk r7.1.kind r17.1 r7.1.column), r17.2).1.column.default.num), sA (((I_Change.mk r7.1.kind r17.1 r7.1.column), r17.2).1.column.default.text)]) (bl := [⟨.mx [sL (((I_Change.mk r7.1.kind r17.1 r7.1.column), r17.2).2.b), iA (((I_Change.mk r7.1.kind r17.1 r7.1.column), r17.2).2.p)], 136, 0⟩]) [some 0] (.inl rfl) rfl (rl := [.cell 4 128]) (.cellN rfl rfl rfl rfl .nil) rfl rfl rfl (.aggL ⟨.t _, .t _, .t _, .t _, .t _, .t _, trivial⟩) ⟨⟨_, rfl, rfl, rfl, .mx ⟨.t _, .t _, trivial⟩⟩, trivial⟩ ⟨rfl, rfl⟩
def m_S_anyChain_k1 (N : Nat) (r1 : ((List I_Column) × (List I_Change) × S_reader)) (r3 : (Int × S_reader)) (v18 : (List I_Change)) : Option ((List I_Column) × (List I_Change) × S_reader) :=
  some (r1.1, v18, r3.2)
def m_S_anyChain_b1 (N : Nat) (v14 : (List I_Change)) : Option ((List I_Change) ⊕ (List I_Change)) :=
  cond (decide ((v14.length : Int) < (9 : Int)))
    ((appM 56 v14 [(I_Change.mk (3 : Int) (0 : Int) (I_Column.mk (0 : Int) (I_Value.mk (0 : Int) (0 : Int) ByteArray.empty)))]).bind fun xs25 =>
    some (.inl xs25))
    (some (.inr v14))
def m_S_anyChain (N : Nat) (p_r : S_reader) : Option ((List I_Column) × (List I_Change) × S_reader) :=
  (m_S_randomChain N p_r).bind fun r1 =>
  (m_S_reader_pick N r1.2.2 (16 : Int)).bind fun r3 =>
  cond (decide (r3.1 = (0 : Int)))
    ((m_S_anyFormat N r3.2).bind fun r6 =>
    some (r6.1, r1.2.1, r6.2))
    (cond (decide (r3.1 = (1 : Int)))
      ((m_S_anyChange N r3.2 r1.1).bind fun r9 =>
      (appM 56 r1.2.1 [r9.1]).bind fun xs11 =>
      some (r1.1, xs11, r9.2))
      (cond (decide (r3.1 = (2 : Int)))
        ((loopM (β := (List I_Change)) (fun s : (List I_Change) => m_S_anyChain_b1 N s) N r1.2.1).bind fun e =>
        m_S_anyChain_k1 N r1 r3 e)
        (some (r1.1, r1.2.1, r3.2))))
theorem w_S_anyChain (N : Nat) (p_r : S_reader) (r : (List I_Column) × (List I_Change) × S_reader) (hh0 : m_S_anyChain N p_r = some r) : FnX Tryz.prog 91 [⟨.mx [sL p_r.b, iA p_r.p], 136, 0⟩] [.op 0 0] (RE (.tup [sL r.1, .os 1 0 r.2.1.length]) [⟨.mx [sL r.2.2.b, iA r.2.2.p], 136, 0⟩, ⟨.tr (eL r.2.1), 128, 6⟩]) := by
  unfold m_S_anyChain at hh0; refine FnX.mk Tryz.func91 rfl rfl ?_; intro s hs; refine PC.seq ?_; refine PC.region ?_; (iterate 2 refine PL.op rfl (Rd.asnT rfl) ?_); refine PL.nil ?_; refine thA_n ?_; refine PC.seq ?_; obtain ⟨r1, h_2, hh0⟩ := bind_some hh0; refine PC.region ?_; refine PL.op rfl (Rd.moveP rfl) ?_; refine PL.callM false [0] (w_S_randomChain N p_r r1 h_2) rfl Tryz.call89 rfl ⟨.op rfl, trivial⟩ rfl ⟨⟨_, rfl, rfl, rfl, .mx ⟨.t _, .t _, trivial⟩⟩, trivial⟩ (fun h => by cases h) ?_; refine PL.nm (.tup [sL r1.1, .os 1 0 r1.2.1.length]) [some ⟨.mx [sL r1.2.2.b, iA r1.2.2.p], 136, 0⟩, some ⟨.tr (eL r1.2.1), 128, 6⟩] rfl rfl ?_; refine PL.op rfl (Rd.moveU rfl) ?_; (iterate 2 refine PL.op rfl (Rd.extract rfl rfl) ?_); refine PL.op rfl (Rd.asnT rfl) ?_; refine PL.op rfl (Rd.asnO rfl) ?_; refine PL.nil ?_; refine thA_n ?_; (iterate 2 refine PC.seq ?_); obtain ⟨r3, h_4, hh0⟩ := bind_some hh0; refine PC.region ?_; refine PL.op rfl (Rd.moveP rfl) ?_; refine PL.callM false [0] (w_S_reader_pick N r1.2.2 (16 : Int) r3 h_4) rfl Tryz.call67 rfl ⟨.op rfl, .t _, trivial⟩ rfl ⟨⟨_, rfl, rfl, rfl, .mx ⟨.t _, .t _, trivial⟩⟩, trivial⟩ (fun h => by cases h) ?_; refine PL.nm (iA r3.1) [some ⟨.mx [sL r3.2.b, iA r3.2.p], 136, 0⟩, some ⟨.tr (eL r1.2.1), 128, 6⟩] rfl rfl ?_; refine PL.nil ?_; refine thA_n ?_; refine PC.block ?_; refine PC.seq ?_; refine PC.region ?_; refine PL.op rfl (Rd.eql rfl rfl) ?_; refine PL.op rfl (Rd.asnT rfl) ?_; refine PL.nil ?_; refine thA_n ?_; rcases cond_some hh0 with ⟨h_5, hh0⟩ | ⟨h_5, hh0⟩
  · refine PC.cond_true rfl h_5 ?_; obtain ⟨r6, h_7, hh0⟩ := bind_some hh0; refine PC.region ?_; refine PL.op rfl (Rd.moveP rfl) ?_; refine PL.callM false [0] (w_S_anyFormat N r3.2 r6 h_7) rfl Tryz.call119 rfl ⟨.op rfl, trivial⟩ rfl ⟨⟨_, rfl, rfl, rfl, .mx ⟨.t _, .t _, trivial⟩⟩, trivial⟩ (fun h => by cases h) ?_; refine PL.nm (.os 2 0 r6.1.length) [some ⟨.mx [sL r6.2.b, iA r6.2.p], 136, 0⟩, some ⟨.tr (eL r1.2.1), 128, 6⟩, some ⟨.tr (eL r6.1), 125, 4⟩] rfl rfl ?_; refine PL.op rfl (Rd.asnO rfl) ?_; refine PL.nil ?_; refine inA_n ?_; refine thA_n ?_; refine PC.seq ?_; refine PC.region ?_; (iterate 2 refine PL.op rfl (Rd.moveO rfl) ?_); (iterate 2 refine PL.op rfl (Rd.asnO rfl) ?_); refine PL.nil ?_; refine thA_n ?_; refine PC.ret ?_; obtain rfl := some_in hh0; exact FinA.mk (r := .tup [sL ((r6.1, r1.2.1, r6.2).1), .os 1 0 (((r6.1, r1.2.1, r6.2).2.1).length)]) (bl := [⟨.mx [sL ((r6.1, r1.2.1, r6.2).2.2.b), iA ((r6.1, r1.2.1, r6.2).2.2.p)], 136, 0⟩, ⟨.tr (eL ((r6.1, r1.2.1, r6.2).2.1)), 128, 6⟩]) [some 0, some 1] (.inl rfl) rfl (rl := [.tmp 2, .tmp 3]) (.tmp (.tmp .nil)) rfl rfl rfl (.tupL ⟨.own rfl (by first | decide | exact List.not_mem_nil) rfl rfl, .os rfl, trivial⟩) ⟨⟨_, rfl, rfl, rfl, .mx ⟨.t _, .t _, trivial⟩⟩, ⟨_, rfl, rfl, rfl, .tr _⟩, trivial⟩ ⟨rfl, rfl⟩
  refine PC.cond_false rfl h_5 ?_; refine PC.seq ?_; refine PC.region ?_; refine PL.op rfl (Rd.eql rfl rfl) ?_; refine PL.op rfl (Rd.asnT rfl) ?_; refine PL.nil ?_; refine thA_n ?_; rcases cond_some hh0 with ⟨h_8, hh0⟩ | ⟨h_8, hh0⟩
  · refine PC.cond_true rfl h_8 ?_; obtain ⟨r9, h_10, hh0⟩ := bind_some hh0; obtain ⟨xs11, h_12, hh0⟩ := bind_some hh0; refine PC.region ?_; refine PL.op rfl (Rd.moveO rfl) ?_; refine PL.op rfl (Rd.moveP rfl) ?_; refine PL.op rfl (Rd.moveT rfl) ?_; refine PL.callM false [0] (w_S_anyChange N r3.2 r1.1 r9 h_10) rfl Tryz.call120 rfl ⟨.op rfl, .t _, trivial⟩ rfl ⟨⟨_, rfl, rfl, rfl, .mx ⟨.t _, .t _, trivial⟩⟩, trivial⟩ (fun h => by cases h) ?_; refine PL.nm (.agg [iA r9.1.kind, iA r9.1.at_, iA r9.1.column.kind, iA r9.1.column.default.kind, iA r9.1.column.default.num, sA r9.1.column.default.text]) [some ⟨.mx [sL r9.2.b, iA r9.2.p], 136, 0⟩, some ⟨.tr (eL r1.2.1), 128, 6⟩] rfl rfl ?_; refine PL.ef rfl (Ef.litM (α := I_Change) [r9.1] [_] rfl rfl (by decide) rfl rfl rfl rfl) ?_; refine PL.nm (.os 2 0 1) [some ⟨.mx [sL r9.2.b, iA r9.2.p], 136, 0⟩, some ⟨.tr (eL r1.2.1), 128, 6⟩, some ⟨.tr (eL [r9.1]), 128, 6⟩] rfl rfl ?_; refine PL.apM hs rfl rfl rfl rfl (SrcA.ownE rfl rfl rfl) rfl rfl rfl rfl h_12 ?_; refine PL.nm (.os 3 0 xs11.length) [some ⟨.mx [sL r9.2.b, iA r9.2.p], 136, 0⟩, none, some ⟨.tr (eL [r9.1]), 128, 6⟩, some ⟨.tr (eL xs11), 128, 6⟩] rfl rfl ?_; refine PL.op rfl (Rd.asnO rfl) ?_; refine PL.nil ?_; refine inA_n ?_; refine thA_n ?_; refine PC.seq ?_; refine PC.region ?_; refine PL.op rfl (Rd.moveT rfl) ?_; refine PL.op rfl (Rd.moveO rfl) ?_; refine PL.op rfl (Rd.asnT rfl) ?_; refine PL.op rfl (Rd.asnO rfl) ?_; refine PL.nil ?_; refine thA_n ?_; refine PC.ret ?_; obtain rfl := some_in hh0; exact FinA.mk (r := .tup [sL ((r1.1, xs11, r9.2).1), .os 1 0 (((r1.1, xs11, r9.2).2.1).length)]) (bl := [⟨.mx [sL ((r1.1, xs11, r9.2).2.2.b), iA ((r1.1, xs11, r9.2).2.2.p)], 136, 0⟩, ⟨.tr (eL ((r1.1, xs11, r9.2).2.1)), 128, 6⟩]) [some 0, some 3] (.inl rfl) rfl (rl := [.tmp 2, .tmp 3]) (.tmp (.tmp .nil)) rfl rfl rfl (.tupL ⟨.t _, .os rfl, trivial⟩) ⟨⟨_, rfl, rfl, rfl, .mx ⟨.t _, .t _, trivial⟩⟩, ⟨_, rfl, rfl, rfl, .tr _⟩, trivial⟩ ⟨rfl, rfl⟩
  refine PC.cond_false rfl h_8 ?_; refine PC.seq ?_; refine PC.region ?_; refine PL.op rfl (Rd.eql rfl rfl) ?_; refine PL.op rfl (Rd.asnT rfl) ?_; refine PL.nil ?_; refine thA_n ?_; rcases cond_some hh0 with ⟨h_13, hh0⟩ | ⟨h_13, hh0⟩; rotate_left
  · refine PC.cond_false rfl h_13 ?_; refine PC.skip ?_; refine inA_n ?_; refine thA_n ?_; refine PC.seq ?_; refine PC.region ?_; refine PL.op rfl (Rd.moveT rfl) ?_; refine PL.op rfl (Rd.moveO rfl) ?_; refine PL.op rfl (Rd.asnT rfl) ?_; refine PL.op rfl (Rd.asnO rfl) ?_; refine PL.nil ?_; refine thA_n ?_; refine PC.ret ?_; obtain rfl := some_in hh0; exact FinA.mk (r := .tup [sL ((r1.1, r1.2.1, r3.2).1), .os 1 0 (((r1.1, r1.2.1, r3.2).2.1).length)]) (bl := [⟨.mx [sL ((r1.1, r1.2.1, r3.2).2.2.b), iA ((r1.1, r1.2.1, r3.2).2.2.p)], 136, 0⟩, ⟨.tr (eL ((r1.1, r1.2.1, r3.2).2.1)), 128, 6⟩]) [some 0, some 1] (.inl rfl) rfl (rl := [.tmp 2, .tmp 3]) (.tmp (.tmp .nil)) rfl rfl rfl (.tupL ⟨.t _, .os rfl, trivial⟩) ⟨⟨_, rfl, rfl, rfl, .mx ⟨.t _, .t _, trivial⟩⟩, ⟨_, rfl, rfl, rfl, .tr _⟩, trivial⟩ ⟨rfl, rfl⟩
  refine PC.cond_true rfl h_13 ?_; obtain ⟨o19, h_20, hh0⟩ := bind_some hh0; refine PC.cutE hs (fun x : (List I_Change) => [(4, sL r1.1), (5, .os 1 0 x.length)]) (fun x => [⟨.mx [sL r3.2.b, iA r3.2.p], 136, 0⟩, ⟨.tr (eL x), 128, 6⟩]) (fun x => m_S_anyChain_k1 N r1 r3 x = some r) ?_ ?_
  · refine PC.block ?_; refine PC.loop hs (fun x : Nat × ((List I_Change)) => [(4, sL r1.1), (5, .os 1 0 x.2.length)]) (fun x => [⟨.mx [sL r3.2.b, iA r3.2.p], 136, 0⟩, ⟨.tr (eL x.2), 128, 6⟩]) (fun x => loopM (β := (List I_Change)) (fun s : (List I_Change) => m_S_anyChain_b1 N s) x.1 x.2 = some o19) (fun x => x.1) (N, r1.2.1) [some 0, some 1] ⟨rfl, rfl, ⟨⟨_, rfl, rfl, rfl, .mx ⟨.t _, .t _, trivial⟩⟩, ⟨_, rfl, rfl, rfl, .tr _⟩, trivial⟩, ⟨.t _, .os rfl, trivial⟩⟩ h_20 ?_
    rintro ⟨f21_, v14⟩ h_23
    obtain ⟨f21, y22, rfl, hh1, kk1⟩ := loopM_some h_23
    replace hh1 : m_S_anyChain_b1 N v14 = some y22 := hh1
    unfold m_S_anyChain_b1 at hh1; (iterate 2 refine PC.seq ?_); refine PC.region ?_; refine PL.op rfl (Rd.moveO rfl) ?_; refine PL.op rfl (Rd.lenO rfl rfl) ?_; refine PL.op rfl (Rd.lss rfl rfl) ?_; refine PL.nil ?_; refine thA_n ?_; rcases cond_some hh1 with ⟨h_24, hh1⟩ | ⟨h_24, hh1⟩; rotate_left
    · refine PC.cond_false rfl h_24 ?_; refine PC.exit ?_; (iterate 2 refine thA_e ?_); refine inA_eq rfl ?_; refine thA_n ?_; obtain rfl := some_in hh1; obtain rfl : (v14 : (List I_Change)) = o19 := kk1; exact ⟨v14, hh0, [some 0, some 1], ⟨rfl, rfl, ⟨⟨_, rfl, rfl, rfl, .mx ⟨.t _, .t _, trivial⟩⟩, ⟨_, rfl, rfl, rfl, .tr _⟩, trivial⟩, ⟨.t _, .os rfl, trivial⟩⟩⟩
    refine PC.cond_true rfl h_24 ?_; refine PC.skip ?_; refine thA_n ?_; refine PC.block ?_; obtain ⟨xs25, h_26, hh1⟩ := bind_some hh1; refine PC.region ?_; refine PL.op rfl (Rd.moveO rfl) ?_; refine PL.op rfl (Rd.build rfl rfl rfl rfl) ?_; refine PL.ef rfl (Ef.litM (α := I_Change) [(I_Change.mk (3 : Int) (0 : Int) (I_Column.mk (0 : Int) (I_Value.mk (0 : Int) (0 : Int) ByteArray.empty)))] [_] rfl rfl (by decide) rfl rfl rfl rfl) ?_; refine PL.nm (.os 2 0 1) [some ⟨.mx [sL r3.2.b, iA r3.2.p], 136, 0⟩, some ⟨.tr (eL v14), 128, 6⟩, some ⟨.tr (eL [(I_Change.mk (3 : Int) (0 : Int) (I_Column.mk (0 : Int) (I_Value.mk (0 : Int) (0 : Int) ByteArray.empty)))]), 128, 6⟩] rfl rfl ?_; refine PL.apM hs rfl rfl rfl rfl (SrcA.ownE rfl rfl rfl) rfl rfl rfl rfl h_26 ?_; refine PL.nm (.os 3 0 xs25.length) [some ⟨.mx [sL r3.2.b, iA r3.2.p], 136, 0⟩, none, some ⟨.tr (eL [(I_Change.mk (3 : Int) (0 : Int) (I_Column.mk (0 : Int) (I_Value.mk (0 : Int) (0 : Int) ByteArray.empty)))]), 128, 6⟩, some ⟨.tr (eL xs25), 128, 6⟩] rfl rfl ?_; refine PL.op rfl (Rd.asnO rfl) ?_; refine PL.nil ?_; refine inA_n ?_; obtain rfl := some_in hh1; refine thA_n ?_; exact ⟨(f21, xs25), Nat.lt_succ_self _, kk1, [some 0, some 3], ⟨rfl, rfl, ⟨⟨_, rfl, rfl, rfl, .mx ⟨.t _, .t _, trivial⟩⟩, ⟨_, rfl, rfl, rfl, .tr _⟩, trivial⟩, ⟨.t _, .os rfl, trivial⟩⟩⟩
  clear hh0
  rintro v18 hh0
  replace hh0 : m_S_anyChain_k1 N r1 r3 v18 = some r := hh0
  unfold m_S_anyChain_k1 at hh0; refine inA_n ?_; refine thA_n ?_; refine PC.seq ?_; refine PC.region ?_; refine PL.op rfl (Rd.moveT rfl) ?_; refine PL.op rfl (Rd.moveO rfl) ?_; refine PL.op rfl (Rd.asnT rfl) ?_; refine PL.op rfl (Rd.asnO rfl) ?_; refine PL.nil ?_; refine thA_n ?_; refine PC.ret ?_; obtain rfl := some_in hh0; exact FinA.mk (r := .tup [sL ((r1.1, v18, r3.2).1), .os 1 0 (((r1.1, v18, r3.2).2.1).length)]) (bl := [⟨.mx [sL ((r1.1, v18, r3.2).2.2.b), iA ((r1.1, v18, r3.2).2.2.p)], 136, 0⟩, ⟨.tr (eL ((r1.1, v18, r3.2).2.1)), 128, 6⟩]) [some 0, some 1] (.inl rfl) rfl (rl := [.tmp 2, .tmp 3]) (.tmp (.tmp .nil)) rfl rfl rfl (.tupL ⟨.t _, .os rfl, trivial⟩) ⟨⟨_, rfl, rfl, rfl, .mx ⟨.t _, .t _, trivial⟩⟩, ⟨_, rfl, rfl, rfl, .tr _⟩, trivial⟩ ⟨rfl, rfl⟩
def m_S_anyRow_k1 (N : Nat) (v14 : (List UInt8)) (v15 : Int) (v16 : (List I_Value)) : Option ((List I_Value) × S_reader) :=
  cond (decide ((0 : Int) < (v16.length : Int)))
    ((m_S_reader_pick N (S_reader.mk v14 v15) (12 : Int)).bind fun r23 =>
    cond (decide (r23.1 = (0 : Int)))
      ((m_S_reader_pick N r23.2 (v16.length : Int)).bind fun r26 =>
      (m_S_anyValue N r26.2).bind fun r28 =>
      (ixI v16 r26.1).bind fun x30 =>
      some ((v16.set r26.1.toNat r28.1), r28.2))
      (some (v16, r23.2)))
    (some (v16, (S_reader.mk v14 v15)))
def m_S_anyRow_b1 (N : Nat) (i3 : Int) (v4 : (List UInt8)) (v5 : Int) (v6 : (List I_Value)) : Option ((Int × (List UInt8) × Int × (List I_Value)) ⊕ ((List UInt8) × Int × (List I_Value))) :=
  cond (decide ((0 : Int) < i3))
    ((m_S_randomValue N (S_reader.mk v4 v5) (-1 : Int)).bind fun r33 =>
    (appM 32 v6 [r33.1]).bind fun xs35 =>
    (chk (i3 - (1 : Int))).bind fun n37 =>
    some (.inl (n37, r33.2.b, r33.2.p, xs35)))
    (some (.inr (v4, v5, v6)))
def m_S_anyRow (N : Nat) (p_r : S_reader) : Option ((List I_Value) × S_reader) :=
  (m_S_reader_one N p_r [(2 : Int), (3 : Int), (1 : Int), (0 : Int), (4 : Int), (5 : Int), (6 : Int)]).bind fun r1 =>
  (loopM (β := (List UInt8) × Int × (List I_Value)) (fun s : Int × (List UInt8) × Int × (List I_Value) => m_S_anyRow_b1 N s.1 s.2.1 s.2.2.1 s.2.2.2) N (r1.1, r1.2.b, r1.2.p, ([] : List I_Value))).bind fun e =>
  m_S_anyRow_k1 N e.1 e.2.1 e.2.2
theorem w_S_anyRow (N : Nat) (p_r : S_reader) (r : (List I_Value) × S_reader) (hh0 : m_S_anyRow N p_r = some r) : FnX Tryz.prog 92 [⟨.mx [sL p_r.b, iA p_r.p], 136, 0⟩] [.op 0 0] (RE (.os 1 0 r.1.length) [⟨.mx [sL r.2.b, iA r.2.p], 136, 0⟩, ⟨.tr (eL r.1), 39, 3⟩]) := by
  unfold m_S_anyRow at hh0; refine FnX.mk Tryz.func92 rfl rfl ?_; intro s hs; refine PC.seq ?_; refine PC.region ?_; refine PL.op rfl (Rd.asnT rfl) ?_; refine PL.nil ?_; refine thA_n ?_; refine PC.seq ?_; refine PC.region ?_; refine PL.ef rfl (Ef.lit0M I_Value) ?_; refine PL.nm (.os 1 0 0) [some ⟨.mx [sL p_r.b, iA p_r.p], 136, 0⟩, some ⟨.tr (eL ([] : List I_Value)), 39, 3⟩] rfl rfl ?_; refine PL.op rfl (Rd.asnO rfl) ?_; refine PL.nil ?_; refine thA_n ?_; (iterate 2 refine PC.seq ?_); obtain ⟨r1, h_2, hh0⟩ := bind_some hh0; refine PC.region ?_; refine PL.op rfl (Rd.moveP rfl) ?_; refine PL.er rfl (Er.ints [(2 : Int), (3 : Int), (1 : Int), (0 : Int), (4 : Int), (5 : Int), (6 : Int)] rfl rfl (by decide) rfl) ?_; refine PL.callM false [0] (w_S_reader_one N p_r [(2 : Int), (3 : Int), (1 : Int), (0 : Int), (4 : Int), (5 : Int), (6 : Int)] r1 h_2) rfl Tryz.call53 rfl ⟨.op rfl, .t _, trivial⟩ rfl ⟨⟨_, rfl, rfl, rfl, .mx ⟨.t _, .t _, trivial⟩⟩, trivial⟩ (fun h => by cases h) ?_; refine PL.nm (iA r1.1) [some ⟨.mx [sL r1.2.b, iA r1.2.p], 136, 0⟩, some ⟨.tr (eL ([] : List I_Value)), 39, 3⟩] rfl rfl ?_; refine PL.op rfl (Rd.asnT rfl) ?_; refine PL.nil ?_; refine thA_n ?_; obtain ⟨o17, h_18, hh0⟩ := bind_some hh0; refine PC.cutE hs (fun x : (List UInt8) × Int × (List I_Value) => [(0, .op 0 0), (3, .os 1 0 x.2.2.length)]) (fun x => [⟨.mx [sL x.1, iA x.2.1], 136, 0⟩, ⟨.tr (eL x.2.2), 39, 3⟩]) (fun x => m_S_anyRow_k1 N x.1 x.2.1 x.2.2 = some r) ?_ ?_
  · refine PC.block ?_; refine PC.loop hs (fun x : Nat × (Int × (List UInt8) × Int × (List I_Value)) => [(0, .op 0 0), (3, .os 1 0 x.2.2.2.2.length), (4, iA x.2.1)]) (fun x => [⟨.mx [sL x.2.2.1, iA x.2.2.2.1], 136, 0⟩, ⟨.tr (eL x.2.2.2.2), 39, 3⟩]) (fun x => loopM (β := (List UInt8) × Int × (List I_Value)) (fun s : Int × (List UInt8) × Int × (List I_Value) => m_S_anyRow_b1 N s.1 s.2.1 s.2.2.1 s.2.2.2) x.1 x.2 = some o17) (fun x => x.1) (N, (r1.1, r1.2.b, r1.2.p, ([] : List I_Value))) [some 0, some 1] ⟨rfl, rfl, ⟨⟨_, rfl, rfl, rfl, .mx ⟨.t _, .t _, trivial⟩⟩, ⟨_, rfl, rfl, rfl, .tr _⟩, trivial⟩, ⟨.op rfl, .os rfl, .t _, trivial⟩⟩ h_18 ?_
    rintro ⟨f19_, i3, v4, v5, v6⟩ h_21
    obtain ⟨f19, y20, rfl, hh1, kk1⟩ := loopM_some h_21
    replace hh1 : m_S_anyRow_b1 N i3 v4 v5 v6 = some y20 := hh1
    unfold m_S_anyRow_b1 at hh1; (iterate 2 refine PC.seq ?_); refine PC.region ?_; refine PL.op rfl (Rd.moveT rfl) ?_; refine PL.op rfl (Rd.gtr rfl rfl) ?_; refine PL.nil ?_; refine thA_n ?_; rcases cond_some hh1 with ⟨h_32, hh1⟩ | ⟨h_32, hh1⟩; rotate_left
    · refine PC.cond_false rfl h_32 ?_; refine PC.exit ?_; (iterate 2 refine thA_e ?_); refine inA_eq rfl ?_; refine thA_n ?_; obtain rfl := some_in hh1; obtain rfl : ((v4, v5, v6) : (List UInt8) × Int × (List I_Value)) = o17 := kk1; exact ⟨(v4, v5, v6), hh0, [some 0, some 1], ⟨rfl, rfl, ⟨⟨_, rfl, rfl, rfl, .mx ⟨.t _, .t _, trivial⟩⟩, ⟨_, rfl, rfl, rfl, .tr _⟩, trivial⟩, ⟨.op rfl, .os rfl, trivial⟩⟩⟩
    refine PC.cond_true rfl h_32 ?_; refine PC.skip ?_; refine thA_n ?_; refine PC.seq ?_; refine PC.block ?_; obtain ⟨r33, h_34, hh1⟩ := bind_some hh1; obtain ⟨xs35, h_36, hh1⟩ := bind_some hh1; refine PC.region ?_; refine PL.op rfl (Rd.moveO rfl) ?_; refine PL.op rfl (Rd.moveP rfl) ?_; refine PL.callM false [0] (w_S_randomValue N (S_reader.mk v4 v5) (-1 : Int) r33 h_34) rfl Tryz.call102 rfl ⟨.op rfl, .t _, trivial⟩ rfl ⟨⟨_, rfl, rfl, rfl, .mx ⟨.t _, .t _, trivial⟩⟩, trivial⟩ (fun h => by cases h) ?_; refine PL.nm (.agg [iA r33.1.kind, iA r33.1.num, sA r33.1.text]) [some ⟨.mx [sL r33.2.b, iA r33.2.p], 136, 0⟩, some ⟨.tr (eL v6), 39, 3⟩] rfl rfl ?_; refine PL.ef rfl (Ef.litM (α := I_Value) [r33.1] [_] rfl rfl (by decide) rfl rfl rfl rfl) ?_; refine PL.nm (.os 2 0 1) [some ⟨.mx [sL r33.2.b, iA r33.2.p], 136, 0⟩, some ⟨.tr (eL v6), 39, 3⟩, some ⟨.tr (eL [r33.1]), 39, 3⟩] rfl rfl ?_; refine PL.apM hs rfl rfl rfl rfl (SrcA.ownE rfl rfl rfl) rfl rfl rfl rfl h_36 ?_; refine PL.nm (.os 3 0 xs35.length) [some ⟨.mx [sL r33.2.b, iA r33.2.p], 136, 0⟩, none, some ⟨.tr (eL [r33.1]), 39, 3⟩, some ⟨.tr (eL xs35), 39, 3⟩] rfl rfl ?_; refine PL.op rfl (Rd.asnO rfl) ?_; refine PL.nil ?_; refine inA_n ?_; refine thA_n ?_; obtain ⟨n37, h_38, hh1⟩ := bind_some hh1; refine PC.region ?_; refine PL.op rfl (Rd.moveT rfl) ?_; refine PL.op rfl (Rd.subM rfl rfl h_38) ?_; refine PL.op rfl (Rd.asnT rfl) ?_; refine PL.nil ?_; obtain rfl := some_in hh1; refine thA_n ?_; exact ⟨(f19, (n37, r33.2.b, r33.2.p, xs35)), Nat.lt_succ_self _, kk1, [some 0, some 3], ⟨rfl, rfl, ⟨⟨_, rfl, rfl, rfl, .mx ⟨.t _, .t _, trivial⟩⟩, ⟨_, rfl, rfl, rfl, .tr _⟩, trivial⟩, ⟨.op rfl, .os rfl, .t _, trivial⟩⟩⟩
  clear hh0
  rintro ⟨v14, v15, v16⟩ hh0
  replace hh0 : m_S_anyRow_k1 N v14 v15 v16 = some r := hh0
  unfold m_S_anyRow_k1 at hh0; refine thA_n ?_; (iterate 2 refine PC.seq ?_); rcases cond_some hh0 with ⟨h_22, hh0⟩ | ⟨h_22, hh0⟩; rotate_left
  · refine PC.region ?_; refine PL.op rfl (Rd.moveO rfl) ?_; refine PL.op rfl (Rd.lenO rfl rfl) ?_; refine PL.op rfl (Rd.gtr rfl rfl) ?_; refine PL.op rfl (Rd.moveT rfl) ?_; (iterate 3 refine PL.guard_off rfl rfl h_22 ?_); refine PL.op rfl (Rd.pick_f rfl h_22) ?_; refine PL.nil ?_; refine thA_n ?_; refine PC.cond_false rfl rfl ?_; refine PC.skip ?_; refine thA_n ?_; refine PC.seq ?_; refine PC.region ?_; refine PL.op rfl (Rd.moveO rfl) ?_; refine PL.op rfl (Rd.asnO rfl) ?_; refine PL.nil ?_; refine thA_n ?_; refine PC.ret ?_; obtain rfl := some_in hh0; exact FinA.mk (r := .os 1 0 (((v16, (S_reader.mk v14 v15)).1).length)) (bl := [⟨.mx [sL ((v16, (S_reader.mk v14 v15)).2.b), iA ((v16, (S_reader.mk v14 v15)).2.p)], 136, 0⟩, ⟨.tr (eL ((v16, (S_reader.mk v14 v15)).1)), 39, 3⟩]) [some 0, some 1] (.inl rfl) rfl (rl := [.tmp 2]) (.tmp .nil) rfl rfl rfl (.os rfl) ⟨⟨_, rfl, rfl, rfl, .mx ⟨.t _, .t _, trivial⟩⟩, ⟨_, rfl, rfl, rfl, .tr _⟩, trivial⟩ ⟨rfl, rfl⟩
  obtain ⟨r23, h_24, hh0⟩ := bind_some hh0; refine PC.region ?_; refine PL.op rfl (Rd.moveO rfl) ?_; refine PL.op rfl (Rd.lenO rfl rfl) ?_; refine PL.op rfl (Rd.gtr rfl rfl) ?_; refine PL.op rfl (Rd.moveT rfl) ?_; refine PL.guard_on rfl h_22 ?_; refine PL.op rfl (Rd.moveP rfl) ?_; refine PL.guard_on rfl h_22 ?_; refine PL.callM false [0] (w_S_reader_pick N (S_reader.mk v14 v15) (12 : Int) r23 h_24) rfl Tryz.call67 rfl ⟨.op rfl, .t _, trivial⟩ rfl ⟨⟨_, rfl, rfl, rfl, .mx ⟨.t _, .t _, trivial⟩⟩, trivial⟩ (fun h => by cases h) ?_; refine PL.nm (iA r23.1) [some ⟨.mx [sL r23.2.b, iA r23.2.p], 136, 0⟩, some ⟨.tr (eL v16), 39, 3⟩] rfl rfl ?_; refine PL.guard_on rfl h_22 ?_; refine PL.op rfl (Rd.eql rfl rfl) ?_; refine PL.op rfl (Rd.pick_t rfl h_22) ?_; refine PL.nil ?_; refine thA_n ?_; rcases cond_some hh0 with ⟨h_25, hh0⟩ | ⟨h_25, hh0⟩; rotate_left
  · refine PC.cond_false rfl h_25 ?_; refine PC.skip ?_; refine thA_n ?_; refine PC.seq ?_; refine PC.region ?_; refine PL.op rfl (Rd.moveO rfl) ?_; refine PL.op rfl (Rd.asnO rfl) ?_; refine PL.nil ?_; refine thA_n ?_; refine PC.ret ?_; obtain rfl := some_in hh0; exact FinA.mk (r := .os 1 0 (((v16, r23.2).1).length)) (bl := [⟨.mx [sL ((v16, r23.2).2.b), iA ((v16, r23.2).2.p)], 136, 0⟩, ⟨.tr (eL ((v16, r23.2).1)), 39, 3⟩]) [some 0, some 1] (.inl rfl) rfl (rl := [.tmp 2]) (.tmp .nil) rfl rfl rfl (.os rfl) ⟨⟨_, rfl, rfl, rfl, .mx ⟨.t _, .t _, trivial⟩⟩, ⟨_, rfl, rfl, rfl, .tr _⟩, trivial⟩ ⟨rfl, rfl⟩
  refine PC.cond_true rfl h_25 ?_; obtain ⟨r26, h_27, hh0⟩ := bind_some hh0; obtain ⟨r28, h_29, hh0⟩ := bind_some hh0; obtain ⟨x30, h_31, hh0⟩ := bind_some hh0; refine PC.region ?_; refine PL.op rfl (Rd.moveO rfl) ?_; refine PL.op rfl (Rd.moveP rfl) ?_; refine PL.op rfl (Rd.moveO rfl) ?_; refine PL.op rfl (Rd.lenO rfl rfl) ?_; refine PL.callM false [0] (w_S_reader_pick N r23.2 (v16.length : Int) r26 h_27) rfl Tryz.call67 rfl ⟨.op rfl, .t _, trivial⟩ rfl ⟨⟨_, rfl, rfl, rfl, .mx ⟨.t _, .t _, trivial⟩⟩, trivial⟩ (fun h => by cases h) ?_; refine PL.nm (iA r26.1) [some ⟨.mx [sL r26.2.b, iA r26.2.p], 136, 0⟩, some ⟨.tr (eL v16), 39, 3⟩] rfl rfl ?_; refine PL.op rfl (Rd.moveP rfl) ?_; refine PL.callM false [0] (w_S_anyValue N r26.2 r28 h_29) rfl Tryz.call66 rfl ⟨.op rfl, trivial⟩ rfl ⟨⟨_, rfl, rfl, rfl, .mx ⟨.t _, .t _, trivial⟩⟩, trivial⟩ (fun h => by cases h) ?_; refine PL.nm (.agg [iA r28.1.kind, iA r28.1.num, sA r28.1.text]) [some ⟨.mx [sL r28.2.b, iA r28.2.p], 136, 0⟩, some ⟨.tr (eL v16), 39, 3⟩] rfl rfl ?_; refine PL.op rfl (Rd.ixOM rfl rfl rfl (ixI_lt h_31)) ?_; refine PL.stRM r28.1 rfl rfl rfl rfl rfl h_31 rfl ?_; refine PL.nO [some ⟨.mx [sL r28.2.b, iA r28.2.p], 136, 0⟩, some ⟨.tr (eL (v16.set r26.1.toNat r28.1)), 39, 3⟩] rfl ?_; refine PL.nil ?_; refine thA_n ?_; refine PC.seq ?_; refine PC.region ?_; refine PL.op rfl (Rd.moveO rfl) ?_; refine PL.op rfl (Rd.asnO rfl) ?_; refine PL.nil ?_; refine thA_n ?_; refine PC.ret ?_; obtain rfl := some_in hh0; exact FinA.mk (r := .os 1 0 ((((v16.set r26.1.toNat r28.1), r28.2).1).length)) (bl := [⟨.mx [sL (((v16.set r26.1.toNat r28.1), r28.2).2.b), iA (((v16.set r26.1.toNat r28.1), r28.2).2.p)], 136, 0⟩, ⟨.tr (eL (((v16.set r26.1.toNat r28.1), r28.2).1)), 39, 3⟩]) [some 0, some 1] (.inl rfl) rfl (rl := [.tmp 2]) (.tmp .nil) rfl rfl rfl (.osE rfl (by simp only [List.length_set])) ⟨⟨_, rfl, rfl, rfl, .mx ⟨.t _, .t _, trivial⟩⟩, ⟨_, rfl, rfl, rfl, .tr _⟩, trivial⟩ ⟨rfl, rfl⟩
def m_S_anyTable2_k2 (N : Nat) (r1 : ((List I_Column) × (List I_Change) × S_reader)) (v51 : (List UInt8)) (v52 : Int) (v53 : (List I_Tagged)) : Option (I_Table × S_reader) :=
  some ((I_Table.mk r1.1 r1.2.1 v53), (S_reader.mk v51 v52))
def m_S_anyTable2_b2 (N : Nat) (r1 : ((List I_Column) × (List I_Change) × S_reader)) (v43 : (List UInt8)) (v44 : Int) (v45 : (List I_Tagged)) : Option (((List UInt8) × Int × (List I_Tagged)) ⊕ ((List UInt8) × Int × (List I_Tagged))) :=
  cond (decide ((v45.length : Int) < (11 : Int)))
    ((m_S_randomRow N (S_reader.mk v43 v44) r1.1).bind fun r60 =>
    (appM 32 v45 [(I_Tagged.mk (0 : Int) r60.1)]).bind fun xs62 =>
    some (.inl (r60.2.b, r60.2.p, xs62)))
    (some (.inr (v43, v44, v45)))
def m_S_anyTable2_k1 (N : Nat) (r1 : ((List I_Column) × (List I_Change) × S_reader)) (r3 : ((List (List I_Column)) × Bool)) (v22 : (List UInt8)) (v23 : Int) (v24 : (List I_Tagged)) : Option (I_Table × S_reader) :=
  (m_S_reader_pick N (S_reader.mk v22 v23) (20 : Int)).bind fun r30 =>
  cond (decide (r30.1 = (0 : Int)))
    ((m_S_anyChain N r30.2).bind fun r33 =>
    some ((I_Table.mk r33.1 r33.2.1 v24), r33.2.2))
    (cond (decide (r30.1 = (1 : Int)))
      ((m_S_reader_one N r30.2 [(0 : Int), (-1 : Int), (r3.1.length : Int)]).bind fun r36 =>
      (m_S_anyRow N r36.2).bind fun r38 =>
      (appM 32 v24 [(I_Tagged.mk r36.1 r38.1)]).bind fun xs40 =>
      some ((I_Table.mk r1.1 r1.2.1 xs40), r38.2))
      (cond (decide (r30.1 = (2 : Int)))
        ((loopM (β := (List UInt8) × Int × (List I_Tagged)) (fun s : (List UInt8) × Int × (List I_Tagged) => m_S_anyTable2_b2 N r1 s.1 s.2.1 s.2.2) N (r30.2.b, r30.2.p, v24)).bind fun e =>
        m_S_anyTable2_k2 N r1 e.1 e.2.1 e.2.2)
        (some ((I_Table.mk r1.1 r1.2.1 v24), r30.2))))
def m_S_anyTable2_b1 (N : Nat) (r3 : ((List (List I_Column)) × Bool)) (tag7 : Int) (v8 : (List UInt8)) (v9 : Int) (v10 : (List I_Tagged)) : Option ((Int × (List UInt8) × Int × (List I_Tagged)) ⊕ ((List UInt8) × Int × (List I_Tagged))) :=
  cond (decide ((0 : Int) < tag7))
    ((m_S_reader_pick N (S_reader.mk v8 v9) (r3.1.length : Int)).bind fun r65 =>
    (ixI r3.1 r65.1).bind fun x67 =>
    (m_S_randomRow N r65.2 x67).bind fun r69 =>
    (appM 32 v10 [(I_Tagged.mk r65.1 r69.1)]).bind fun xs71 =>
    (chk (tag7 - (1 : Int))).bind fun n73 =>
    some (.inl (n73, r69.2.b, r69.2.p, xs71)))
    (some (.inr (v8, v9, v10)))
def m_S_anyTable2 (N : Nat) (p_r : S_reader) : Option (I_Table × S_reader) :=
  (m_S_randomChain N p_r).bind fun r1 =>
  (m_S_formats N r1.1 r1.2.1).bind fun r3 =>
  (m_S_reader_one N r1.2.2 [(3 : Int), (4 : Int), (2 : Int), (5 : Int), (0 : Int), (10 : Int)]).bind fun r5 =>
  (loopM (β := (List UInt8) × Int × (List I_Tagged)) (fun s : Int × (List UInt8) × Int × (List I_Tagged) => m_S_anyTable2_b1 N r3 s.1 s.2.1 s.2.2.1 s.2.2.2) N (r5.1, r5.2.b, r5.2.p, ([] : List I_Tagged))).bind fun e =>
  m_S_anyTable2_k1 N r1 r3 e.1 e.2.1 e.2.2
theorem w_S_anyTable2 (N : Nat) (p_r : S_reader) (r : I_Table × S_reader) (hh0 : m_S_anyTable2 N p_r = some r) : FnX Tryz.prog 52 [⟨.mx [sL p_r.b, iA p_r.p], 136, 0⟩] [.op 0 0] (RE (.agg [sL r.1.first, sL r.1.changes, .os 1 0 r.1.rows.length]) [⟨.mx [sL r.2.b, iA r.2.p], 136, 0⟩, ⟨.tr (eL r.1.rows), 96, 2⟩]) := by
  unfold m_S_anyTable2 at hh0; refine FnX.mk Tryz.func52 rfl rfl ?_; intro s hs; refine PC.seq ?_; refine PC.region ?_; refine PL.ef rfl (Ef.alloc rfl rfl) ?_; refine PL.nm (.op 1 0) [some ⟨.mx [sL p_r.b, iA p_r.p], 136, 0⟩, some ⟨.mx [.t (.v (.slice none 0 0)), .t (.v (.slice none 0 0)), .t (.v (.slice none 0 0))], 37, 0⟩] rfl rfl ?_; refine PL.nil ?_; refine thA_n ?_; refine PC.seq ?_; obtain ⟨r1, h_2, hh0⟩ := bind_some hh0; refine PC.region ?_; refine PL.op rfl (Rd.moveP rfl) ?_; refine PL.callM false [0] (w_S_randomChain N p_r r1 h_2) rfl Tryz.call89 rfl ⟨.op rfl, trivial⟩ rfl ⟨⟨_, rfl, rfl, rfl, .mx ⟨.t _, .t _, trivial⟩⟩, trivial⟩ (fun h => by cases h) ?_; refine PL.nm (.tup [sL r1.1, .os 2 0 r1.2.1.length]) [some ⟨.mx [sL r1.2.2.b, iA r1.2.2.p], 136, 0⟩, some ⟨.mx [.t (.v (.slice none 0 0)), .t (.v (.slice none 0 0)), .t (.v (.slice none 0 0))], 37, 0⟩, some ⟨.tr (eL r1.2.1), 128, 6⟩] rfl rfl ?_; refine PL.op rfl (Rd.moveU rfl) ?_; (iterate 2 refine PL.op rfl (Rd.extract rfl rfl) ?_); refine PL.op rfl (Rd.asnT rfl) ?_; refine PL.op rfl (Rd.asnO rfl) ?_; refine PL.nil ?_; refine thA_n ?_; refine PC.seq ?_; obtain ⟨r3, h_4, hh0⟩ := bind_some hh0; refine PC.region ?_; refine PL.op rfl (Rd.moveT rfl) ?_; refine PL.op rfl (Rd.moveO rfl) ?_; refine PL.frz hs 2 3 [(12, .tup [sL r1.1, sL r1.2.1]), (10, .tup [sL r1.1, sL r1.2.1]), (14, sL r1.2.1), (4, sL r1.2.1), (17, sL r1.2.1)] [some ⟨.mx [sL r1.2.2.b, iA r1.2.2.p], 136, 0⟩, some ⟨.mx [.t (.v (.slice none 0 0)), .t (.v (.slice none 0 0)), .t (.v (.slice none 0 0))], 37, 0⟩, none] rfl rfl ⟨(.tupL ⟨(.t _), (.own rfl (by decide) rfl rfl), trivial⟩), (.tupL ⟨(.t _), (.own rfl (by decide) rfl rfl), trivial⟩), (.own rfl (by decide) rfl rfl), (.own rfl (by decide) rfl rfl), (.own rfl (by decide) rfl rfl), trivial⟩ ⟨⟨rfl, .inl rfl⟩, ⟨rfl, .inl rfl⟩, trivial⟩ ?_; refine PL.callM false [] (w_S_formats N r1.1 r1.2.1 r3 h_4) rfl Tryz.call75 rfl ⟨.t _, .t _, trivial⟩ rfl trivial (fun h => by cases h) ?_; refine PL.nm (.tup [.os 3 0 r3.1.length, bA r3.2]) [some ⟨.mx [sL r1.2.2.b, iA r1.2.2.p], 136, 0⟩, some ⟨.mx [.t (.v (.slice none 0 0)), .t (.v (.slice none 0 0)), .t (.v (.slice none 0 0))], 37, 0⟩, none, some ⟨.tr (eL r3.1), 33, 1⟩] rfl rfl ?_; refine PL.op rfl (Rd.moveU rfl) ?_; (iterate 2 refine PL.op rfl (Rd.extract rfl rfl) ?_); refine PL.op rfl (Rd.asnO rfl) ?_; refine PL.op rfl (Rd.asnT rfl) ?_; refine PL.nil ?_; refine thA_n ?_; refine PC.seq ?_; refine PC.region ?_; refine PL.ef rfl (Ef.lit0M I_Tagged) ?_; refine PL.nm (.os 4 0 0) [some ⟨.mx [sL r1.2.2.b, iA r1.2.2.p], 136, 0⟩, some ⟨.mx [.t (.v (.slice none 0 0)), .t (.v (.slice none 0 0)), .t (.v (.slice none 0 0))], 37, 0⟩, none, some ⟨.tr (eL r3.1), 33, 1⟩, some ⟨.tr (eL ([] : List I_Tagged)), 96, 2⟩] rfl rfl ?_; refine PL.op rfl (Rd.asnO rfl) ?_; refine PL.nil ?_; refine thA_n ?_; (iterate 2 refine PC.seq ?_); obtain ⟨r5, h_6, hh0⟩ := bind_some hh0; refine PC.region ?_; refine PL.op rfl (Rd.moveP rfl) ?_; refine PL.er rfl (Er.ints [(3 : Int), (4 : Int), (2 : Int), (5 : Int), (0 : Int), (10 : Int)] rfl rfl (by decide) rfl) ?_; refine PL.callM false [0] (w_S_reader_one N r1.2.2 [(3 : Int), (4 : Int), (2 : Int), (5 : Int), (0 : Int), (10 : Int)] r5 h_6) rfl Tryz.call53 rfl ⟨.op rfl, .t _, trivial⟩ rfl ⟨⟨_, rfl, rfl, rfl, .mx ⟨.t _, .t _, trivial⟩⟩, trivial⟩ (fun h => by cases h) ?_; refine PL.nm (iA r5.1) [some ⟨.mx [sL r5.2.b, iA r5.2.p], 136, 0⟩, some ⟨.mx [.t (.v (.slice none 0 0)), .t (.v (.slice none 0 0)), .t (.v (.slice none 0 0))], 37, 0⟩, none, some ⟨.tr (eL r3.1), 33, 1⟩, some ⟨.tr (eL ([] : List I_Tagged)), 96, 2⟩] rfl rfl ?_; refine PL.op rfl (Rd.asnT rfl) ?_; refine PL.nil ?_; refine thA_n ?_; obtain ⟨o25, h_26, hh0⟩ := bind_some hh0; refine PC.cutE hs (fun x : (List UInt8) × Int × (List I_Tagged) => [(0, .op 0 0), (2, .op 1 0), (3, sL r1.1), (4, sL r1.2.1), (5, .os 2 0 r3.1.length), (7, .os 3 0 x.2.2.length)]) (fun x => [⟨.mx [sL x.1, iA x.2.1], 136, 0⟩, ⟨.mx [.t (.v (.slice none 0 0)), .t (.v (.slice none 0 0)), .t (.v (.slice none 0 0))], 37, 0⟩, ⟨.tr (eL r3.1), 33, 1⟩, ⟨.tr (eL x.2.2), 96, 2⟩]) (fun x => m_S_anyTable2_k1 N r1 r3 x.1 x.2.1 x.2.2 = some r) ?_ ?_
  · refine PC.block ?_; refine PC.loop hs (fun x : Nat × (Int × (List UInt8) × Int × (List I_Tagged)) => [(0, .op 0 0), (2, .op 1 0), (3, sL r1.1), (4, sL r1.2.1), (5, .os 2 0 r3.1.length), (7, .os 3 0 x.2.2.2.2.length), (8, iA x.2.1)]) (fun x => [⟨.mx [sL x.2.2.1, iA x.2.2.2.1], 136, 0⟩, ⟨.mx [.t (.v (.slice none 0 0)), .t (.v (.slice none 0 0)), .t (.v (.slice none 0 0))], 37, 0⟩, ⟨.tr (eL r3.1), 33, 1⟩, ⟨.tr (eL x.2.2.2.2), 96, 2⟩]) (fun x => loopM (β := (List UInt8) × Int × (List I_Tagged)) (fun s : Int × (List UInt8) × Int × (List I_Tagged) => m_S_anyTable2_b1 N r3 s.1 s.2.1 s.2.2.1 s.2.2.2) x.1 x.2 = some o25) (fun x => x.1) (N, (r5.1, r5.2.b, r5.2.p, ([] : List I_Tagged))) [some 0, some 1, some 3, some 4] ⟨rfl, rfl, ⟨⟨_, rfl, rfl, rfl, .mx ⟨.t _, .t _, trivial⟩⟩, ⟨_, rfl, rfl, rfl, .mx ⟨.t _, .t _, .t _, trivial⟩⟩, ⟨_, rfl, rfl, rfl, .tr _⟩, ⟨_, rfl, rfl, rfl, .tr _⟩, trivial⟩, ⟨.op rfl, .op rfl, .t _, .t _, .os rfl, .os rfl, .t _, trivial⟩⟩ h_26 ?_
    rintro ⟨f27_, tag7, v8, v9, v10⟩ h_29
    obtain ⟨f27, y28, rfl, hh1, kk1⟩ := loopM_some h_29
    replace hh1 : m_S_anyTable2_b1 N r3 tag7 v8 v9 v10 = some y28 := hh1
    unfold m_S_anyTable2_b1 at hh1; (iterate 2 refine PC.seq ?_); refine PC.region ?_; refine PL.op rfl (Rd.moveT rfl) ?_; refine PL.op rfl (Rd.gtr rfl rfl) ?_; refine PL.nil ?_; refine thA_n ?_; rcases cond_some hh1 with ⟨h_64, hh1⟩ | ⟨h_64, hh1⟩; rotate_left
    · refine PC.cond_false rfl h_64 ?_; refine PC.exit ?_; (iterate 2 refine thA_e ?_); refine inA_eq rfl ?_; refine thA_n ?_; obtain rfl := some_in hh1; obtain rfl : ((v8, v9, v10) : (List UInt8) × Int × (List I_Tagged)) = o25 := kk1; exact ⟨(v8, v9, v10), hh0, [some 0, some 1, some 2, some 3], ⟨rfl, rfl, ⟨⟨_, rfl, rfl, rfl, .mx ⟨.t _, .t _, trivial⟩⟩, ⟨_, rfl, rfl, rfl, .mx ⟨.t _, .t _, .t _, trivial⟩⟩, ⟨_, rfl, rfl, rfl, .tr _⟩, ⟨_, rfl, rfl, rfl, .tr _⟩, trivial⟩, ⟨.op rfl, .op rfl, .t _, .t _, .os rfl, .os rfl, trivial⟩⟩⟩
    refine PC.cond_true rfl h_64 ?_; refine PC.skip ?_; refine thA_n ?_; refine PC.seq ?_; refine PC.block ?_; refine PC.seq ?_; obtain ⟨r65, h_66, hh1⟩ := bind_some hh1; refine PC.region ?_; refine PL.op rfl (Rd.moveP rfl) ?_; refine PL.op rfl (Rd.moveO rfl) ?_; refine PL.op rfl (Rd.lenO rfl rfl) ?_; refine PL.callM false [0] (w_S_reader_pick N (S_reader.mk v8 v9) (r3.1.length : Int) r65 h_66) rfl Tryz.call67 rfl ⟨.op rfl, .t _, trivial⟩ rfl ⟨⟨_, rfl, rfl, rfl, .mx ⟨.t _, .t _, trivial⟩⟩, trivial⟩ (fun h => by cases h) ?_; refine PL.nm (iA r65.1) [some ⟨.mx [sL r65.2.b, iA r65.2.p], 136, 0⟩, some ⟨.mx [.t (.v (.slice none 0 0)), .t (.v (.slice none 0 0)), .t (.v (.slice none 0 0))], 37, 0⟩, some ⟨.tr (eL r3.1), 33, 1⟩, some ⟨.tr (eL v10), 96, 2⟩] rfl rfl ?_; refine PL.op rfl (Rd.asnT rfl) ?_; refine PL.nil ?_; refine thA_n ?_; obtain ⟨x67, h_68, hh1⟩ := bind_some hh1; obtain ⟨r69, h_70, hh1⟩ := bind_some hh1; obtain ⟨xs71, h_72, hh1⟩ := bind_some hh1; refine PC.region ?_; refine PL.op rfl (Rd.moveO rfl) ?_; refine PL.op rfl (Rd.moveT rfl) ?_; refine PL.op rfl (Rd.moveP rfl) ?_; refine PL.op rfl (Rd.moveO rfl) ?_; refine PL.op rfl (Rd.moveT rfl) ?_; refine PL.op rfl (Rd.ixOM rfl rfl rfl (ixI_lt h_68)) ?_; refine PL.op rfl (Rd.owM1 rfl rfl h_68 rfl rfl) ?_; refine PL.callM false [0] (w_S_randomRow N r65.2 x67 r69 h_70) rfl Tryz.call90 rfl ⟨.op rfl, .t _, trivial⟩ rfl ⟨⟨_, rfl, rfl, rfl, .mx ⟨.t _, .t _, trivial⟩⟩, trivial⟩ (fun h => by cases h) ?_; refine PL.nm (.os 4 0 r69.1.length) [some ⟨.mx [sL r69.2.b, iA r69.2.p], 136, 0⟩, some ⟨.mx [.t (.v (.slice none 0 0)), .t (.v (.slice none 0 0)), .t (.v (.slice none 0 0))], 37, 0⟩, some ⟨.tr (eL r3.1), 33, 1⟩, some ⟨.tr (eL v10), 96, 2⟩, some ⟨.tr (eL r69.1), 39, 3⟩] rfl rfl ?_; refine PL.op rfl (Rd.build rfl rfl rfl rfl) ?_; refine PL.frz hs 4 5 [(40, sL r69.1), (41, .agg [iA r65.1, sL r69.1])] [some ⟨.mx [sL r69.2.b, iA r69.2.p], 136, 0⟩, some ⟨.mx [.t (.v (.slice none 0 0)), .t (.v (.slice none 0 0)), .t (.v (.slice none 0 0))], 37, 0⟩, some ⟨.tr (eL r3.1), 33, 1⟩, some ⟨.tr (eL v10), 96, 2⟩, none] rfl rfl ⟨(.own rfl (by decide) rfl rfl), (.aggL ⟨(.t _), (.own rfl (by decide) rfl rfl), trivial⟩), trivial⟩ ⟨⟨rfl, .inl rfl⟩, ⟨rfl, .inl rfl⟩, ⟨rfl, .inl rfl⟩, ⟨rfl, .inl rfl⟩, trivial⟩ ?_; refine PL.ef rfl (Ef.litM (α := I_Tagged) [(I_Tagged.mk r65.1 r69.1)] [_] rfl rfl (by decide) rfl rfl rfl rfl) ?_; refine PL.nm (.os 5 0 1) [some ⟨.mx [sL r69.2.b, iA r69.2.p], 136, 0⟩, some ⟨.mx [.t (.v (.slice none 0 0)), .t (.v (.slice none 0 0)), .t (.v (.slice none 0 0))], 37, 0⟩, some ⟨.tr (eL r3.1), 33, 1⟩, some ⟨.tr (eL v10), 96, 2⟩, none, some ⟨.tr (eL [(I_Tagged.mk r65.1 r69.1)]), 96, 2⟩] rfl rfl ?_; refine PL.apM hs rfl rfl rfl rfl (SrcA.ownE rfl rfl rfl) rfl rfl rfl rfl h_72 ?_; refine PL.nm (.os 6 0 xs71.length) [some ⟨.mx [sL r69.2.b, iA r69.2.p], 136, 0⟩, some ⟨.mx [.t (.v (.slice none 0 0)), .t (.v (.slice none 0 0)), .t (.v (.slice none 0 0))], 37, 0⟩, some ⟨.tr (eL r3.1), 33, 1⟩, none, none, some ⟨.tr (eL [(I_Tagged.mk r65.1 r69.1)]), 96, 2⟩, some ⟨.tr (eL xs71), 96, 2⟩] rfl rfl ?_; refine PL.op rfl (Rd.asnO rfl) ?_; refine PL.nil ?_; refine inA_n ?_; refine thA_n ?_; obtain ⟨n73, h_74, hh1⟩ := bind_some hh1; refine PC.region ?_; refine PL.op rfl (Rd.moveT rfl) ?_; refine PL.op rfl (Rd.subM rfl rfl h_74) ?_; refine PL.op rfl (Rd.asnT rfl) ?_; refine PL.nil ?_; obtain rfl := some_in hh1; refine thA_n ?_; exact ⟨(f27, (n73, r69.2.b, r69.2.p, xs71)), Nat.lt_succ_self _, kk1, [some 0, some 1, some 2, some 6], ⟨rfl, rfl, ⟨⟨_, rfl, rfl, rfl, .mx ⟨.t _, .t _, trivial⟩⟩, ⟨_, rfl, rfl, rfl, .mx ⟨.t _, .t _, .t _, trivial⟩⟩, ⟨_, rfl, rfl, rfl, .tr _⟩, ⟨_, rfl, rfl, rfl, .tr _⟩, trivial⟩, ⟨.op rfl, .op rfl, .t _, .t _, .os rfl, .os rfl, .t _, trivial⟩⟩⟩
  clear hh0
  rintro ⟨v22, v23, v24⟩ hh0
  replace hh0 : m_S_anyTable2_k1 N r1 r3 v22 v23 v24 = some r := hh0
  unfold m_S_anyTable2_k1 at hh0; refine thA_n ?_; (iterate 2 refine PC.seq ?_); obtain ⟨r30, h_31, hh0⟩ := bind_some hh0; refine PC.region ?_; refine PL.op rfl (Rd.moveP rfl) ?_; refine PL.callM false [0] (w_S_reader_pick N (S_reader.mk v22 v23) (20 : Int) r30 h_31) rfl Tryz.call67 rfl ⟨.op rfl, .t _, trivial⟩ rfl ⟨⟨_, rfl, rfl, rfl, .mx ⟨.t _, .t _, trivial⟩⟩, trivial⟩ (fun h => by cases h) ?_; refine PL.nm (iA r30.1) [some ⟨.mx [sL r30.2.b, iA r30.2.p], 136, 0⟩, some ⟨.mx [.t (.v (.slice none 0 0)), .t (.v (.slice none 0 0)), .t (.v (.slice none 0 0))], 37, 0⟩, some ⟨.tr (eL r3.1), 33, 1⟩, some ⟨.tr (eL v24), 96, 2⟩] rfl rfl ?_; refine PL.nil ?_; refine thA_n ?_; refine PC.block ?_; refine PC.seq ?_; refine PC.region ?_; refine PL.op rfl (Rd.eql rfl rfl) ?_; refine PL.op rfl (Rd.asnT rfl) ?_; refine PL.nil ?_; refine thA_n ?_; rcases cond_some hh0 with ⟨h_32, hh0⟩ | ⟨h_32, hh0⟩
  · refine PC.cond_true rfl h_32 ?_; obtain ⟨r33, h_34, hh0⟩ := bind_some hh0; refine PC.region ?_; refine PL.op rfl (Rd.moveP rfl) ?_; refine PL.callM false [0] (w_S_anyChain N r30.2 r33 h_34) rfl Tryz.call91 rfl ⟨.op rfl, trivial⟩ rfl ⟨⟨_, rfl, rfl, rfl, .mx ⟨.t _, .t _, trivial⟩⟩, trivial⟩ (fun h => by cases h) ?_; refine PL.nm (.tup [sL r33.1, .os 4 0 r33.2.1.length]) [some ⟨.mx [sL r33.2.2.b, iA r33.2.2.p], 136, 0⟩, some ⟨.mx [.t (.v (.slice none 0 0)), .t (.v (.slice none 0 0)), .t (.v (.slice none 0 0))], 37, 0⟩, some ⟨.tr (eL r3.1), 33, 1⟩, some ⟨.tr (eL v24), 96, 2⟩, some ⟨.tr (eL r33.2.1), 128, 6⟩] rfl rfl ?_; refine PL.op rfl (Rd.moveU rfl) ?_; (iterate 2 refine PL.op rfl (Rd.extract rfl rfl) ?_); refine PL.op rfl (Rd.asnT rfl) ?_; refine PL.op rfl (Rd.asnO rfl) ?_; refine PL.nil ?_; refine inA_n ?_; refine thA_n ?_; refine PC.seq ?_; refine PC.region ?_; refine PL.op rfl (Rd.moveT rfl) ?_; (iterate 2 refine PL.op rfl (Rd.moveO rfl) ?_); refine PL.op rfl (Rd.build rfl rfl rfl rfl) ?_; refine PL.store rfl rfl rfl rfl rfl rfl rfl ?_; refine PL.nO [some ⟨.mx [sL r33.2.2.b, iA r33.2.2.p], 136, 0⟩, some ⟨.mx [sL r33.1, .os 4 0 r33.2.1.length, .os 3 0 v24.length], 37, 0⟩, some ⟨.tr (eL r3.1), 33, 1⟩, some ⟨.tr (eL v24), 96, 2⟩, some ⟨.tr (eL r33.2.1), 128, 6⟩] rfl ?_; refine PL.nil ?_; refine thA_n ?_; refine PC.ret ?_; obtain rfl := some_in hh0; exact FinA.mk (r := .agg [sL (((I_Table.mk r33.1 r33.2.1 v24), r33.2.2).1.first), sL (((I_Table.mk r33.1 r33.2.1 v24), r33.2.2).1.changes), .os 1 0 ((((I_Table.mk r33.1 r33.2.1 v24), r33.2.2).1.rows).length)]) (bl := [⟨.mx [sL (((I_Table.mk r33.1 r33.2.1 v24), r33.2.2).2.b), iA (((I_Table.mk r33.1 r33.2.1 v24), r33.2.2).2.p)], 136, 0⟩, ⟨.tr (eL (((I_Table.mk r33.1 r33.2.1 v24), r33.2.2).1.rows)), 96, 2⟩]) [some 0, some 3] (.inl rfl) rfl (rl := [.cell 2 37]) (.cellN rfl rfl rfl rfl .nil) rfl rfl rfl (.aggL ⟨.t _, .own rfl (by first | decide | exact List.not_mem_nil) rfl rfl, .os rfl, trivial⟩) ⟨⟨_, rfl, rfl, rfl, .mx ⟨.t _, .t _, trivial⟩⟩, ⟨_, rfl, rfl, rfl, .tr _⟩, trivial⟩ ⟨rfl, rfl⟩
  refine PC.cond_false rfl h_32 ?_; refine PC.seq ?_; refine PC.region ?_; refine PL.op rfl (Rd.eql rfl rfl) ?_; refine PL.op rfl (Rd.asnT rfl) ?_; refine PL.nil ?_; refine thA_n ?_; rcases cond_some hh0 with ⟨h_35, hh0⟩ | ⟨h_35, hh0⟩
  · refine PC.cond_true rfl h_35 ?_; obtain ⟨r36, h_37, hh0⟩ := bind_some hh0; obtain ⟨r38, h_39, hh0⟩ := bind_some hh0; obtain ⟨xs40, h_41, hh0⟩ := bind_some hh0; refine PC.region ?_; refine PL.op rfl (Rd.moveO rfl) ?_; refine PL.op rfl (Rd.moveP rfl) ?_; refine PL.op rfl (Rd.moveO rfl) ?_; refine PL.op rfl (Rd.lenO rfl rfl) ?_; refine PL.ef rfl (Ef.litM (α := Int) [(0 : Int), (-1 : Int), (r3.1.length : Int)] [_, _, _] rfl rfl (by decide) rfl rfl rfl rfl) ?_; refine PL.nm (.os 4 0 3) [some ⟨.mx [sL r30.2.b, iA r30.2.p], 136, 0⟩, some ⟨.mx [.t (.v (.slice none 0 0)), .t (.v (.slice none 0 0)), .t (.v (.slice none 0 0))], 37, 0⟩, some ⟨.tr (eL r3.1), 33, 1⟩, some ⟨.tr (eL v24), 96, 2⟩, some ⟨.tr (eL [(0 : Int), (-1 : Int), (r3.1.length : Int)]), 3, 1⟩] rfl rfl ?_; refine PL.frz hs 4 5 [(59, sL [(0 : Int), (-1 : Int), (r3.1.length : Int)])] [some ⟨.mx [sL r30.2.b, iA r30.2.p], 136, 0⟩, some ⟨.mx [.t (.v (.slice none 0 0)), .t (.v (.slice none 0 0)), .t (.v (.slice none 0 0))], 37, 0⟩, some ⟨.tr (eL r3.1), 33, 1⟩, some ⟨.tr (eL v24), 96, 2⟩, none] rfl rfl ⟨(.own rfl (by decide) rfl rfl), trivial⟩ ⟨⟨rfl, .inl rfl⟩, ⟨rfl, .inl rfl⟩, ⟨rfl, .inl rfl⟩, ⟨rfl, .inl rfl⟩, trivial⟩ ?_; refine PL.callM false [0] (w_S_reader_one N r30.2 [(0 : Int), (-1 : Int), (r3.1.length : Int)] r36 h_37) rfl Tryz.call53 rfl ⟨.op rfl, .t _, trivial⟩ rfl ⟨⟨_, rfl, rfl, rfl, .mx ⟨.t _, .t _, trivial⟩⟩, trivial⟩ (fun h => by cases h) ?_; refine PL.nm (iA r36.1) [some ⟨.mx [sL r36.2.b, iA r36.2.p], 136, 0⟩, some ⟨.mx [.t (.v (.slice none 0 0)), .t (.v (.slice none 0 0)), .t (.v (.slice none 0 0))], 37, 0⟩, some ⟨.tr (eL r3.1), 33, 1⟩, some ⟨.tr (eL v24), 96, 2⟩, none] rfl rfl ?_; refine PL.op rfl (Rd.moveP rfl) ?_; refine PL.callM false [0] (w_S_anyRow N r36.2 r38 h_39) rfl Tryz.call92 rfl ⟨.op rfl, trivial⟩ rfl ⟨⟨_, rfl, rfl, rfl, .mx ⟨.t _, .t _, trivial⟩⟩, trivial⟩ (fun h => by cases h) ?_; refine PL.nm (.os 5 0 r38.1.length) [some ⟨.mx [sL r38.2.b, iA r38.2.p], 136, 0⟩, some ⟨.mx [.t (.v (.slice none 0 0)), .t (.v (.slice none 0 0)), .t (.v (.slice none 0 0))], 37, 0⟩, some ⟨.tr (eL r3.1), 33, 1⟩, some ⟨.tr (eL v24), 96, 2⟩, none, some ⟨.tr (eL r38.1), 39, 3⟩] rfl rfl ?_; refine PL.op rfl (Rd.build rfl rfl rfl rfl) ?_; refine PL.frz hs 5 6 [(62, sL r38.1), (63, .agg [iA r36.1, sL r38.1])] [some ⟨.mx [sL r38.2.b, iA r38.2.p], 136, 0⟩, some ⟨.mx [.t (.v (.slice none 0 0)), .t (.v (.slice none 0 0)), .t (.v (.slice none 0 0))], 37, 0⟩, some ⟨.tr (eL r3.1), 33, 1⟩, some ⟨.tr (eL v24), 96, 2⟩, none, none] rfl rfl ⟨(.own rfl (by decide) rfl rfl), (.aggL ⟨(.t _), (.own rfl (by decide) rfl rfl), trivial⟩), trivial⟩ ⟨⟨rfl, .inl rfl⟩, ⟨rfl, .inl rfl⟩, ⟨rfl, .inl rfl⟩, ⟨rfl, .inl rfl⟩, trivial⟩ ?_; refine PL.ef rfl (Ef.litM (α := I_Tagged) [(I_Tagged.mk r36.1 r38.1)] [_] rfl rfl (by decide) rfl rfl rfl rfl) ?_; refine PL.nm (.os 6 0 1) [some ⟨.mx [sL r38.2.b, iA r38.2.p], 136, 0⟩, some ⟨.mx [.t (.v (.slice none 0 0)), .t (.v (.slice none 0 0)), .t (.v (.slice none 0 0))], 37, 0⟩, some ⟨.tr (eL r3.1), 33, 1⟩, some ⟨.tr (eL v24), 96, 2⟩, none, none, some ⟨.tr (eL [(I_Tagged.mk r36.1 r38.1)]), 96, 2⟩] rfl rfl ?_; refine PL.apM hs rfl rfl rfl rfl (SrcA.ownE rfl rfl rfl) rfl rfl rfl rfl h_41 ?_; refine PL.nm (.os 7 0 xs40.length) [some ⟨.mx [sL r38.2.b, iA r38.2.p], 136, 0⟩, some ⟨.mx [.t (.v (.slice none 0 0)), .t (.v (.slice none 0 0)), .t (.v (.slice none 0 0))], 37, 0⟩, some ⟨.tr (eL r3.1), 33, 1⟩, none, none, none, some ⟨.tr (eL [(I_Tagged.mk r36.1 r38.1)]), 96, 2⟩, some ⟨.tr (eL xs40), 96, 2⟩] rfl rfl ?_; refine PL.op rfl (Rd.asnO rfl) ?_; refine PL.nil ?_; refine inA_n ?_; refine thA_n ?_; refine PC.seq ?_; refine PC.region ?_; (iterate 2 refine PL.op rfl (Rd.moveT rfl) ?_); refine PL.op rfl (Rd.moveO rfl) ?_; refine PL.op rfl (Rd.build rfl rfl rfl rfl) ?_; refine PL.store rfl rfl rfl rfl rfl rfl rfl ?_; refine PL.nO [some ⟨.mx [sL r38.2.b, iA r38.2.p], 136, 0⟩, some ⟨.mx [sL r1.1, sL r1.2.1, .os 7 0 xs40.length], 37, 0⟩, some ⟨.tr (eL r3.1), 33, 1⟩, none, none, none, some ⟨.tr (eL [(I_Tagged.mk r36.1 r38.1)]), 96, 2⟩, some ⟨.tr (eL xs40), 96, 2⟩] rfl ?_; refine PL.nil ?_; refine thA_n ?_; refine PC.ret ?_; obtain rfl := some_in hh0; exact FinA.mk (r := .agg [sL (((I_Table.mk r1.1 r1.2.1 xs40), r38.2).1.first), sL (((I_Table.mk r1.1 r1.2.1 xs40), r38.2).1.changes), .os 1 0 ((((I_Table.mk r1.1 r1.2.1 xs40), r38.2).1.rows).length)]) (bl := [⟨.mx [sL (((I_Table.mk r1.1 r1.2.1 xs40), r38.2).2.b), iA (((I_Table.mk r1.1 r1.2.1 xs40), r38.2).2.p)], 136, 0⟩, ⟨.tr (eL (((I_Table.mk r1.1 r1.2.1 xs40), r38.2).1.rows)), 96, 2⟩]) [some 0, some 7] (.inl rfl) rfl (rl := [.cell 2 37]) (.cellN rfl rfl rfl rfl .nil) rfl rfl rfl (.aggL ⟨.t _, .t _, .os rfl, trivial⟩) ⟨⟨_, rfl, rfl, rfl, .mx ⟨.t _, .t _, trivial⟩⟩, ⟨_, rfl, rfl, rfl, .tr _⟩, trivial⟩ ⟨rfl, rfl⟩
  refine PC.cond_false rfl h_35 ?_; refine PC.seq ?_; refine PC.region ?_; refine PL.op rfl (Rd.eql rfl rfl) ?_; refine PL.op rfl (Rd.asnT rfl) ?_; refine PL.nil ?_; refine thA_n ?_; rcases cond_some hh0 with ⟨h_42, hh0⟩ | ⟨h_42, hh0⟩; rotate_left
  · refine PC.cond_false rfl h_42 ?_; refine PC.skip ?_; refine inA_n ?_; refine thA_n ?_; refine PC.seq ?_; refine PC.region ?_; (iterate 2 refine PL.op rfl (Rd.moveT rfl) ?_); refine PL.op rfl (Rd.moveO rfl) ?_; refine PL.op rfl (Rd.build rfl rfl rfl rfl) ?_; refine PL.store rfl rfl rfl rfl rfl rfl rfl ?_; refine PL.nO [some ⟨.mx [sL r30.2.b, iA r30.2.p], 136, 0⟩, some ⟨.mx [sL r1.1, sL r1.2.1, .os 3 0 v24.length], 37, 0⟩, some ⟨.tr (eL r3.1), 33, 1⟩, some ⟨.tr (eL v24), 96, 2⟩] rfl ?_; refine PL.nil ?_; refine thA_n ?_; refine PC.ret ?_; obtain rfl := some_in hh0; exact FinA.mk (r := .agg [sL (((I_Table.mk r1.1 r1.2.1 v24), r30.2).1.first), sL (((I_Table.mk r1.1 r1.2.1 v24), r30.2).1.changes), .os 1 0 ((((I_Table.mk r1.1 r1.2.1 v24), r30.2).1.rows).length)]) (bl := [⟨.mx [sL (((I_Table.mk r1.1 r1.2.1 v24), r30.2).2.b), iA (((I_Table.mk r1.1 r1.2.1 v24), r30.2).2.p)], 136, 0⟩, ⟨.tr (eL (((I_Table.mk r1.1 r1.2.1 v24), r30.2).1.rows)), 96, 2⟩]) [some 0, some 3] (.inl rfl) rfl (rl := [.cell 2 37]) (.cellN rfl rfl rfl rfl .nil) rfl rfl rfl (.aggL ⟨.t _, .t _, .os rfl, trivial⟩) ⟨⟨_, rfl, rfl, rfl, .mx ⟨.t _, .t _, trivial⟩⟩, ⟨_, rfl, rfl, rfl, .tr _⟩, trivial⟩ ⟨rfl, rfl⟩
  refine PC.cond_true rfl h_42 ?_; obtain ⟨o54, h_55, hh0⟩ := bind_some hh0; refine PC.cutE hs (fun x : (List UInt8) × Int × (List I_Tagged) => [(2, .op 1 0), (3, sL r1.1), (4, sL r1.2.1), (7, .os 2 0 x.2.2.length)]) (fun x => [⟨.mx [sL x.1, iA x.2.1], 136, 0⟩, ⟨.mx [.t (.v (.slice none 0 0)), .t (.v (.slice none 0 0)), .t (.v (.slice none 0 0))], 37, 0⟩, ⟨.tr (eL x.2.2), 96, 2⟩]) (fun x => m_S_anyTable2_k2 N r1 x.1 x.2.1 x.2.2 = some r) ?_ ?_
  · refine PC.block ?_; refine PC.loop hs (fun x : Nat × ((List UInt8) × Int × (List I_Tagged)) => [(0, .op 0 0), (2, .op 1 0), (3, sL r1.1), (4, sL r1.2.1), (7, .os 2 0 x.2.2.2.length)]) (fun x => [⟨.mx [sL x.2.1, iA x.2.2.1], 136, 0⟩, ⟨.mx [.t (.v (.slice none 0 0)), .t (.v (.slice none 0 0)), .t (.v (.slice none 0 0))], 37, 0⟩, ⟨.tr (eL x.2.2.2), 96, 2⟩]) (fun x => loopM (β := (List UInt8) × Int × (List I_Tagged)) (fun s : (List UInt8) × Int × (List I_Tagged) => m_S_anyTable2_b2 N r1 s.1 s.2.1 s.2.2) x.1 x.2 = some o54) (fun x => x.1) (N, (r30.2.b, r30.2.p, v24)) [some 0, some 1, some 3] ⟨rfl, rfl, ⟨⟨_, rfl, rfl, rfl, .mx ⟨.t _, .t _, trivial⟩⟩, ⟨_, rfl, rfl, rfl, .mx ⟨.t _, .t _, .t _, trivial⟩⟩, ⟨_, rfl, rfl, rfl, .tr _⟩, trivial⟩, ⟨.op rfl, .op rfl, .t _, .t _, .os rfl, trivial⟩⟩ h_55 ?_
    rintro ⟨f56_, v43, v44, v45⟩ h_58
    obtain ⟨f56, y57, rfl, hh1, kk1⟩ := loopM_some h_58
    replace hh1 : m_S_anyTable2_b2 N r1 v43 v44 v45 = some y57 := hh1
    unfold m_S_anyTable2_b2 at hh1; (iterate 2 refine PC.seq ?_); refine PC.region ?_; refine PL.op rfl (Rd.moveO rfl) ?_; refine PL.op rfl (Rd.lenO rfl rfl) ?_; refine PL.op rfl (Rd.lss rfl rfl) ?_; refine PL.nil ?_; refine thA_n ?_; rcases cond_some hh1 with ⟨h_59, hh1⟩ | ⟨h_59, hh1⟩; rotate_left
    · refine PC.cond_false rfl h_59 ?_; refine PC.exit ?_; (iterate 2 refine thA_e ?_); refine inA_eq rfl ?_; refine thA_n ?_; obtain rfl := some_in hh1; obtain rfl : ((v43, v44, v45) : (List UInt8) × Int × (List I_Tagged)) = o54 := kk1; exact ⟨(v43, v44, v45), hh0, [some 0, some 1, some 2], ⟨rfl, rfl, ⟨⟨_, rfl, rfl, rfl, .mx ⟨.t _, .t _, trivial⟩⟩, ⟨_, rfl, rfl, rfl, .mx ⟨.t _, .t _, .t _, trivial⟩⟩, ⟨_, rfl, rfl, rfl, .tr _⟩, trivial⟩, ⟨.op rfl, .t _, .t _, .os rfl, trivial⟩⟩⟩
    refine PC.cond_true rfl h_59 ?_; refine PC.skip ?_; refine thA_n ?_; refine PC.block ?_; obtain ⟨r60, h_61, hh1⟩ := bind_some hh1; obtain ⟨xs62, h_63, hh1⟩ := bind_some hh1; refine PC.region ?_; refine PL.op rfl (Rd.moveO rfl) ?_; refine PL.op rfl (Rd.moveP rfl) ?_; refine PL.op rfl (Rd.moveT rfl) ?_; refine PL.callM false [0] (w_S_randomRow N (S_reader.mk v43 v44) r1.1 r60 h_61) rfl Tryz.call90 rfl ⟨.op rfl, .t _, trivial⟩ rfl ⟨⟨_, rfl, rfl, rfl, .mx ⟨.t _, .t _, trivial⟩⟩, trivial⟩ (fun h => by cases h) ?_; refine PL.nm (.os 3 0 r60.1.length) [some ⟨.mx [sL r60.2.b, iA r60.2.p], 136, 0⟩, some ⟨.mx [.t (.v (.slice none 0 0)), .t (.v (.slice none 0 0)), .t (.v (.slice none 0 0))], 37, 0⟩, some ⟨.tr (eL v45), 96, 2⟩, some ⟨.tr (eL r60.1), 39, 3⟩] rfl rfl ?_; refine PL.op rfl (Rd.build rfl rfl rfl rfl) ?_; refine PL.frz hs 3 4 [(74, sL r60.1), (75, .agg [iA (0 : Int), sL r60.1])] [some ⟨.mx [sL r60.2.b, iA r60.2.p], 136, 0⟩, some ⟨.mx [.t (.v (.slice none 0 0)), .t (.v (.slice none 0 0)), .t (.v (.slice none 0 0))], 37, 0⟩, some ⟨.tr (eL v45), 96, 2⟩, none] rfl rfl ⟨(.own rfl (by decide) rfl rfl), (.aggL ⟨(.t _), (.own rfl (by decide) rfl rfl), trivial⟩), trivial⟩ ⟨⟨rfl, .inl rfl⟩, ⟨rfl, .inl rfl⟩, ⟨rfl, .inl rfl⟩, trivial⟩ ?_; refine PL.ef rfl (Ef.litM (α := I_Tagged) [(I_Tagged.mk (0 : Int) r60.1)] [_] rfl rfl (by decide) rfl rfl rfl rfl) ?_; refine PL.nm (.os 4 0 1) [some ⟨.mx [sL r60.2.b, iA r60.2.p], 136, 0⟩, some ⟨.mx [.t (.v (.slice none 0 0)), .t (.v (.slice none 0 0)), .t (.v (.slice none 0 0))], 37, 0⟩, some ⟨.tr (eL v45), 96, 2⟩, none, some ⟨.tr (eL [(I_Tagged.mk (0 : Int) r60.1)]), 96, 2⟩] rfl rfl ?_; refine PL.apM hs rfl rfl rfl rfl (SrcA.ownE rfl rfl rfl) rfl rfl rfl rfl h_63 ?_; refine PL.nm (.os 5 0 xs62.length) [some ⟨.mx [sL r60.2.b, iA r60.2.p], 136, 0⟩, some ⟨.mx [.t (.v (.slice none 0 0)), .t (.v (.slice none 0 0)), .t (.v (.slice none 0 0))], 37, 0⟩, none, none, some ⟨.tr (eL [(I_Tagged.mk (0 : Int) r60.1)]), 96, 2⟩, some ⟨.tr (eL xs62), 96, 2⟩] rfl rfl ?_; refine PL.op rfl (Rd.asnO rfl) ?_; refine PL.nil ?_; refine inA_n ?_; obtain rfl := some_in hh1; refine thA_n ?_; exact ⟨(f56, (r60.2.b, r60.2.p, xs62)), Nat.lt_succ_self _, kk1, [some 0, some 1, some 5], ⟨rfl, rfl, ⟨⟨_, rfl, rfl, rfl, .mx ⟨.t _, .t _, trivial⟩⟩, ⟨_, rfl, rfl, rfl, .mx ⟨.t _, .t _, .t _, trivial⟩⟩, ⟨_, rfl, rfl, rfl, .tr _⟩, trivial⟩, ⟨.op rfl, .op rfl, .t _, .t _, .os rfl, trivial⟩⟩⟩
  clear hh0
  rintro ⟨v51, v52, v53⟩ hh0
  replace hh0 : m_S_anyTable2_k2 N r1 v51 v52 v53 = some r := hh0
  unfold m_S_anyTable2_k2 at hh0; refine inA_n ?_; refine thA_n ?_; refine PC.seq ?_; refine PC.region ?_; (iterate 2 refine PL.op rfl (Rd.moveT rfl) ?_); refine PL.op rfl (Rd.moveO rfl) ?_; refine PL.op rfl (Rd.build rfl rfl rfl rfl) ?_; refine PL.store rfl rfl rfl rfl rfl rfl rfl ?_; refine PL.nO [some ⟨.mx [sL v51, iA v52], 136, 0⟩, some ⟨.mx [sL r1.1, sL r1.2.1, .os 2 0 v53.length], 37, 0⟩, some ⟨.tr (eL v53), 96, 2⟩] rfl ?_; refine PL.nil ?_; refine thA_n ?_; refine PC.ret ?_; obtain rfl := some_in hh0; exact FinA.mk (r := .agg [sL (((I_Table.mk r1.1 r1.2.1 v53), (S_reader.mk v51 v52)).1.first), sL (((I_Table.mk r1.1 r1.2.1 v53), (S_reader.mk v51 v52)).1.changes), .os 1 0 ((((I_Table.mk r1.1 r1.2.1 v53), (S_reader.mk v51 v52)).1.rows).length)]) (bl := [⟨.mx [sL (((I_Table.mk r1.1 r1.2.1 v53), (S_reader.mk v51 v52)).2.b), iA (((I_Table.mk r1.1 r1.2.1 v53), (S_reader.mk v51 v52)).2.p)], 136, 0⟩, ⟨.tr (eL (((I_Table.mk r1.1 r1.2.1 v53), (S_reader.mk v51 v52)).1.rows)), 96, 2⟩]) [some 0, some 2] (.inl rfl) rfl (rl := [.cell 2 37]) (.cellN rfl rfl rfl rfl .nil) rfl rfl rfl (.aggL ⟨.t _, .t _, .os rfl, trivial⟩) ⟨⟨_, rfl, rfl, rfl, .mx ⟨.t _, .t _, trivial⟩⟩, ⟨_, rfl, rfl, rfl, .tr _⟩, trivial⟩ ⟨rfl, rfl⟩
end V
end Go.Proofs.YtkjnnifnmoekjaaGreatDoor
namespace Go.Proofs.YtkjnnifnmoekjaaGreatDoor
namespace V
open Enc (enc)
set_option linter.unusedVariables false
set_option linter.unusedSimpArgs false
set_option maxHeartbeats 4000000
set_option maxRecDepth 100000
open Go.RowKit
attribute [local irreducible] thA inA FinA eL
def m_S_DrawIndexColumn (N : Nat) (p_code : (List UInt8)) : Option (I_Table × Int) :=
  (m_S_newReader N p_code).bind fun r1 =>
  (m_S_anyTable2 N r1).bind fun r3 =>
  (m_S_reader_one N r3.2 [(0 : Int), (1 : Int), (0 : Int), (2 : Int), (-1 : Int), (5 : Int)]).bind fun r5 =>
  some (r3.1, r5.1)
theorem w_S_DrawIndexColumn (N : Nat) (p_code : (List UInt8)) (r : I_Table × Int) (hh0 : m_S_DrawIndexColumn N p_code = some r) : FnX Tryz.prog 18 [] [sL p_code] (RE (.tup [.agg [sL r.1.first, sL r.1.changes, .os 0 0 r.1.rows.length], iA r.2]) [⟨.tr (eL r.1.rows), 96, 2⟩]) := by
  unfold m_S_DrawIndexColumn at hh0; refine FnX.mk Tryz.func18 rfl rfl ?_; intro s hs; refine PC.seq ?_; refine PC.region ?_; refine PL.ef rfl (Ef.alloc rfl rfl) ?_; refine PL.nm (.op 0 0) [some ⟨.mx [.t (.v (.slice none 0 0)), .t (.v (.slice none 0 0)), .t (.v (.slice none 0 0))], 37, 0⟩] rfl rfl ?_; refine PL.op rfl (Rd.asnT rfl) ?_; refine PL.nil ?_; refine thA_n ?_; refine PC.seq ?_; obtain ⟨r1, h_2, hh0⟩ := bind_some hh0; refine PC.region ?_; refine PL.op rfl (Rd.moveT rfl) ?_; refine PL.callM false [] (w_S_newReader N p_code r1 h_2) rfl Tryz.call51 rfl ⟨.t _, trivial⟩ rfl trivial (fun h => by cases h) ?_; refine PL.nm (.op 1 0) [some ⟨.mx [.t (.v (.slice none 0 0)), .t (.v (.slice none 0 0)), .t (.v (.slice none 0 0))], 37, 0⟩, some ⟨.mx [sL r1.b, iA r1.p], 136, 0⟩] rfl rfl ?_; refine PL.op rfl (Rd.asnP rfl) ?_; refine PL.nil ?_; refine thA_n ?_; refine PC.seq ?_; obtain ⟨r3, h_4, hh0⟩ := bind_some hh0; refine PC.region ?_; refine PL.op rfl (Rd.moveP rfl) ?_; refine PL.callM false [1] (w_S_anyTable2 N r1 r3 h_4) rfl Tryz.call52 rfl ⟨.op rfl, trivial⟩ rfl ⟨⟨_, rfl, rfl, rfl, .mx ⟨.t _, .t _, trivial⟩⟩, trivial⟩ (fun h => by cases h) ?_; refine PL.nm (.agg [sL r3.1.first, sL r3.1.changes, .os 2 0 r3.1.rows.length]) [some ⟨.mx [.t (.v (.slice none 0 0)), .t (.v (.slice none 0 0)), .t (.v (.slice none 0 0))], 37, 0⟩, some ⟨.mx [sL r3.2.b, iA r3.2.p], 136, 0⟩, some ⟨.tr (eL r3.1.rows), 96, 2⟩] rfl rfl ?_; refine PL.ef rfl (Ef.alloc rfl rfl) ?_; refine PL.nm (.op 3 0) [some ⟨.mx [.t (.v (.slice none 0 0)), .t (.v (.slice none 0 0)), .t (.v (.slice none 0 0))], 37, 0⟩, some ⟨.mx [sL r3.2.b, iA r3.2.p], 136, 0⟩, some ⟨.tr (eL r3.1.rows), 96, 2⟩, some ⟨.mx [.t (.v (.slice none 0 0)), .t (.v (.slice none 0 0)), .t (.v (.slice none 0 0))], 37, 0⟩] rfl rfl ?_; refine PL.store rfl rfl rfl rfl rfl rfl rfl ?_; refine PL.nO [some ⟨.mx [.t (.v (.slice none 0 0)), .t (.v (.slice none 0 0)), .t (.v (.slice none 0 0))], 37, 0⟩, some ⟨.mx [sL r3.2.b, iA r3.2.p], 136, 0⟩, some ⟨.tr (eL r3.1.rows), 96, 2⟩, some ⟨.mx [sL r3.1.first, sL r3.1.changes, .os 2 0 r3.1.rows.length], 37, 0⟩] rfl ?_; refine PL.nil ?_; refine thA_n ?_; obtain ⟨r5, h_6, hh0⟩ := bind_some hh0; refine PC.cut hs (fun _ : Unit => [(2, .op 0 0), (3, iA r5.1)]) (fun _ => [⟨.mx [sL r3.1.first, sL r3.1.changes, .os 1 0 r3.1.rows.length], 37, 0⟩, ⟨.tr (eL r3.1.rows), 96, 2⟩]) (fun _ => True) ?_ ?_
  · refine PC.any (id := 3) 4 (.seg [1] (.fork (.seg [0, 2, 3] .done) (.seg [2] (.fork (.seg [0, 3] .done) (.seg [3, 0] .done))))) [1] rfl (by kernel_rfl) rfl ?_; refine PT.seg ?_; refine PR.op rfl (Rd.moveP rfl) ?_; refine PR.nil ?_; refine PT.fork ?_ ?_
    · refine PT.seg ?_; refine PR.rdE rfl rfl (Rd.loadBox rfl rfl rfl) ?_; refine PR.er rfl rfl (Er.ints [(0 : Int), (1 : Int), (0 : Int), (2 : Int), (-1 : Int), (5 : Int)] rfl rfl (by decide) rfl) ?_; refine PR.callM false [1] (w_S_reader_one N r3.2 [(0 : Int), (1 : Int), (0 : Int), (2 : Int), (-1 : Int), (5 : Int)] r5 h_6) rfl Tryz.call53 rfl ⟨.op rfl, .t _, trivial⟩ rfl ⟨⟨_, rfl, rfl, rfl, .mx ⟨.t _, .t _, trivial⟩⟩, trivial⟩ (fun h => by cases h) rfl ?_; refine PR.nm (iA r5.1) [some ⟨.mx [.t (.v (.slice none 0 0)), .t (.v (.slice none 0 0)), .t (.v (.slice none 0 0))], 37, 0⟩, some ⟨.mx [sL r5.2.b, iA r5.2.p], 136, 0⟩, some ⟨.tr (eL r3.1.rows), 96, 2⟩, some ⟨.mx [sL r3.1.first, sL r3.1.changes, .os 2 0 r3.1.rows.length], 37, 0⟩] rfl rfl ?_; refine PR.nil ?_; refine PT.done ?_; refine PL.store rfl rfl rfl rfl rfl rfl rfl ?_; refine PL.nO [some ⟨.mx [sL r3.1.first, sL r3.1.changes, .os 2 0 r3.1.rows.length], 37, 0⟩, some ⟨.mx [sL r5.2.b, iA r5.2.p], 136, 0⟩, some ⟨.tr (eL r3.1.rows), 96, 2⟩, some ⟨.mx [sL r3.1.first, sL r3.1.changes, .os 2 0 r3.1.rows.length], 37, 0⟩] rfl ?_; refine PL.op rfl (Rd.asnT rfl) ?_; refine PL.nil ?_; refine thA_n ?_; exact ⟨(), trivial, [some 0, some 2], ⟨rfl, rfl, ⟨⟨_, rfl, rfl, rfl, .mx ⟨.t _, .t _, .os rfl, trivial⟩⟩, ⟨_, rfl, rfl, rfl, .tr _⟩, trivial⟩, ⟨.op rfl, .t _, trivial⟩⟩⟩
    refine PT.seg ?_; refine PR.er rfl rfl (Er.ints [(0 : Int), (1 : Int), (0 : Int), (2 : Int), (-1 : Int), (5 : Int)] rfl rfl (by decide) rfl) ?_; refine PR.nil ?_; refine PT.fork ?_ ?_
    · refine PT.seg ?_; refine PR.rdE rfl rfl (Rd.loadBox rfl rfl rfl) ?_; refine PR.callM false [1] (w_S_reader_one N r3.2 [(0 : Int), (1 : Int), (0 : Int), (2 : Int), (-1 : Int), (5 : Int)] r5 h_6) rfl Tryz.call53 rfl ⟨.op rfl, .t _, trivial⟩ rfl ⟨⟨_, rfl, rfl, rfl, .mx ⟨.t _, .t _, trivial⟩⟩, trivial⟩ (fun h => by cases h) rfl ?_; refine PR.nm (iA r5.1) [some ⟨.mx [.t (.v (.slice none 0 0)), .t (.v (.slice none 0 0)), .t (.v (.slice none 0 0))], 37, 0⟩, some ⟨.mx [sL r5.2.b, iA r5.2.p], 136, 0⟩, some ⟨.tr (eL r3.1.rows), 96, 2⟩, some ⟨.mx [sL r3.1.first, sL r3.1.changes, .os 2 0 r3.1.rows.length], 37, 0⟩] rfl rfl ?_; refine PR.nil ?_; refine PT.done ?_; refine PL.store rfl rfl rfl rfl rfl rfl rfl ?_; refine PL.nO [some ⟨.mx [sL r3.1.first, sL r3.1.changes, .os 2 0 r3.1.rows.length], 37, 0⟩, some ⟨.mx [sL r5.2.b, iA r5.2.p], 136, 0⟩, some ⟨.tr (eL r3.1.rows), 96, 2⟩, some ⟨.mx [sL r3.1.first, sL r3.1.changes, .os 2 0 r3.1.rows.length], 37, 0⟩] rfl ?_; refine PL.op rfl (Rd.asnT rfl) ?_; refine PL.nil ?_; refine thA_n ?_; exact ⟨(), trivial, [some 0, some 2], ⟨rfl, rfl, ⟨⟨_, rfl, rfl, rfl, .mx ⟨.t _, .t _, .os rfl, trivial⟩⟩, ⟨_, rfl, rfl, rfl, .tr _⟩, trivial⟩, ⟨.op rfl, .t _, trivial⟩⟩⟩
    refine PT.seg ?_; refine PR.callM false [1] (w_S_reader_one N r3.2 [(0 : Int), (1 : Int), (0 : Int), (2 : Int), (-1 : Int), (5 : Int)] r5 h_6) rfl Tryz.call53 rfl ⟨.op rfl, .t _, trivial⟩ rfl ⟨⟨_, rfl, rfl, rfl, .mx ⟨.t _, .t _, trivial⟩⟩, trivial⟩ (fun h => by cases h) rfl ?_; refine PR.nm (iA r5.1) [some ⟨.mx [.t (.v (.slice none 0 0)), .t (.v (.slice none 0 0)), .t (.v (.slice none 0 0))], 37, 0⟩, some ⟨.mx [sL r5.2.b, iA r5.2.p], 136, 0⟩, some ⟨.tr (eL r3.1.rows), 96, 2⟩, some ⟨.mx [sL r3.1.first, sL r3.1.changes, .os 2 0 r3.1.rows.length], 37, 0⟩] rfl rfl ?_; refine PR.rdE rfl rfl (Rd.loadBox rfl rfl rfl) ?_; refine PR.nil ?_; refine PT.done ?_; refine PL.store rfl rfl rfl rfl rfl rfl rfl ?_; refine PL.nO [some ⟨.mx [sL r3.1.first, sL r3.1.changes, .os 2 0 r3.1.rows.length], 37, 0⟩, some ⟨.mx [sL r5.2.b, iA r5.2.p], 136, 0⟩, some ⟨.tr (eL r3.1.rows), 96, 2⟩, some ⟨.mx [sL r3.1.first, sL r3.1.changes, .os 2 0 r3.1.rows.length], 37, 0⟩] rfl ?_; refine PL.op rfl (Rd.asnT rfl) ?_; refine PL.nil ?_; refine thA_n ?_; exact ⟨(), trivial, [some 0, some 2], ⟨rfl, rfl, ⟨⟨_, rfl, rfl, rfl, .mx ⟨.t _, .t _, .os rfl, trivial⟩⟩, ⟨_, rfl, rfl, rfl, .tr _⟩, trivial⟩, ⟨.op rfl, .t _, trivial⟩⟩⟩
  rintro ⟨⟩ -
  refine PC.ret ?_; obtain rfl := some_in hh0; exact FinA.mk (r := .tup [.agg [sL ((r3.1, r5.1).1.first), sL ((r3.1, r5.1).1.changes), .os 0 0 (((r3.1, r5.1).1.rows).length)], iA ((r3.1, r5.1).2)]) (bl := [⟨.tr (eL ((r3.1, r5.1).1.rows)), 96, 2⟩]) [some 1] (.inl rfl) rfl (rl := [.cell 2 37, .tmp 3]) (.cellN rfl rfl rfl rfl (.tmp .nil)) rfl rfl rfl (.tupL ⟨.aggL ⟨.t _, .t _, .os rfl, trivial⟩, .t _, trivial⟩) ⟨⟨_, rfl, rfl, rfl, .tr _⟩, trivial⟩ ⟨rfl, rfl⟩
end V
end Go.Proofs.YtkjnnifnmoekjaaGreatDoor
