/- What the rows need, part 6. No condition. -/
import Derived.Shelf.Strings.Search3
import Derived.Shelf.Strings.Count
import Derived.Shelf.Strings.OnBuilder
import Derived.Test.YtemmcidmcojjjaaGreatDoorProg
import Derived.Test.YtemmcidmcojjjaaGreatDoorQSwE
set_option linter.unusedVariables false
set_option linter.unusedSimpArgs false
namespace Go.Proofs.YtemmcidmcojjjaaGreatDoor
namespace V
set_option maxHeartbeats 1000000
def rV (t : I_Table) (r : I_Tagged) : Prop := 0 ≤ r.tag ∧ r.tag ≤ t.changes.length ∧ fitP (fA t.first t.changes r.tag.toNat) r.row
noncomputable instance (t : I_Table) (r : I_Tagged) : Decidable (rV t r) := Classical.propDecidable _
def tV (t : I_Table) : Prop := cO t.first t.changes ∧ t.rows.length ≤ 10 ∧ ∀ i (h : i < t.rows.length), rV t t.rows[i]
noncomputable instance (t : I_Table) : Decidable (tV t) := Classical.propDecidable _
structure bT (t : I_Table) : Prop where
  f : bS t.first
  c : bCs t.changes
  rl : t.rows.length ≤ 5000000
  r : ∀ i (h : i < t.rows.length), bR t.rows[i].row
def fL (t : I_Table) : List I_Column := fA t.first t.changes t.changes.length
theorem fL_v {t : I_Table} (h : tV t) : vF (fL t) := cO_fA h.1 (Nat.le_refl _)
theorem rV_bR {t : I_Table} {r : I_Tagged} (ho : cO t.first t.changes) (h : rV t r) : bR r.row := by
  have := (cO_fA ho (i := r.tag.toNat) (by have := h.2.1; omega)).1
  exact fit_bR h.2.2 (by omega)
theorem tV_bT {t : I_Table} (h : tV t) (hc : bCs t.changes) : bT t := ⟨vF_bS h.1.1, hc, by have := h.2.1; omega, fun i hi => rV_bR h.1 (h.2.2 i hi)⟩
def adv (t : I_Table) (r : I_Tagged) : List I_Value := mA r.row t.changes r.tag.toNat t.changes.length
theorem adv_fit {t : I_Table} {r : I_Tagged} (h : tV t) (hr : rV t r) : fitP (fL t) (adv t r) := fit_mA h.1.2.2 hr.2.2 _ (by have := hr.2.1; omega) (Nat.le_refl _)
def oldB (t : I_Table) (r : I_Tagged) : Bool := decide (r.tag ≠ t.changes.length)
def toL (t : I_Table) (r : I_Tagged) : I_Tagged := ⟨t.changes.length, adv t r⟩
theorem toL_v {t : I_Table} {r : I_Tagged} (h : tV t) (hr : rV t r) : rV t (toL t r) := ⟨Int.natCast_nonneg _, Int.le_refl _, adv_fit h hr⟩
section
variable {α β : Type} (o : α → Bool) (a : α → α)
def rwL : Nat → List α → List α
  | _, [] => []
  | n, x :: xs => if o x = true ∧ 0 < n then a x :: rwL (n - 1) xs else x :: rwL n xs
theorem rwL_len : ∀ (n : Nat) (xs : List α), (rwL o a n xs).length = xs.length
  | _, [] => rfl
  | n, x :: xs => by
    unfold rwL
    split <;> simp [rwL_len _ xs]
theorem rwL_zero : ∀ (xs : List α), rwL o a 0 xs = xs
  | [] => rfl
  | x :: xs => by unfold rwL; rw [if_neg (by omega), rwL_zero xs]
theorem rwL_pos {n : Nat} {x : α} {xs : List α} (h : o x = true ∧ 0 < n) : rwL o a n (x :: xs) = a x :: rwL o a (n - 1) xs := by rw [rwL, if_pos h]
theorem rwL_neg {n : Nat} {x : α} {xs : List α} (h : ¬ (o x = true ∧ 0 < n)) : rwL o a n (x :: xs) = x :: rwL o a n xs := by rw [rwL, if_neg h]
theorem rwL_app : ∀ (n : Nat) (xs ys : List α), rwL o a n (xs ++ ys) = rwL o a n xs ++ rwL o a (n - xs.countP o) ys
  | n, [], ys => rfl
  | n, x :: xs, ys => by
    rw [List.cons_append, List.countP_cons]
    by_cases h : o x = true ∧ 0 < n
    · rw [rwL_pos o a h, rwL_pos o a h, rwL_app (n - 1) xs ys, if_pos h.1, List.cons_append]
      congr 3; omega
    · rw [rwL_neg o a h, rwL_neg o a h, rwL_app n xs ys, List.cons_append]
      by_cases hx : o x = true
      · have : n = 0 := by
          rcases Nat.eq_zero_or_pos n with h1 | h1
          · exact h1
          · exact (h ⟨hx, h1⟩).elim
        subst this; simp
      · rw [if_neg hx]; simp
theorem rwL_get : ∀ (n : Nat) (xs : List α) (i : Nat) (h : i < xs.length) (h' : i < (rwL o a n xs).length), (rwL o a n xs)[i] = xs[i] ∨ (rwL o a n xs)[i] = a xs[i]
  | n, x :: xs, 0, h, h' => by
    simp only [rwL]
    split
    · exact .inr rfl
    · exact .inl rfl
  | n, x :: xs, i + 1, h, h' => by
    by_cases hc : o x = true ∧ 0 < n
    · have e : rwL o a n (x :: xs) = a x :: rwL o a (n - 1) xs := by rw [rwL, if_pos hc]
      simp only [e, List.getElem_cons_succ]
      exact rwL_get (n - 1) xs i _ _
    · have e : rwL o a n (x :: xs) = x :: rwL o a n xs := by rw [rwL, if_neg hc]
      simp only [e, List.getElem_cons_succ]
      exact rwL_get n xs i _ _
theorem rwL_one (n : Nat) (x : α) : rwL o a n [x] = [if o x = true ∧ 0 < n then a x else x] := by
  simp only [rwL]
  split <;> rfl
end
def rwT (t : I_Table) (n : Nat) : I_Table := ⟨t.first, t.changes, rwL (oldB t) (toL t) n t.rows⟩
theorem rwT_v {t : I_Table} (h : tV t) (n : Nat) : tV (rwT t n) := by
  refine ⟨h.1, ?_, fun i hi => ?_⟩
  · show (rwL _ _ _ _).length ≤ 10
    rw [rwL_len]; exact h.2.1
  · have hi' : i < (rwL (oldB t) (toL t) n t.rows).length := hi
    rw [rwL_len] at hi'
    show rV t (rwL (oldB t) (toL t) n t.rows)[i]
    rcases rwL_get (oldB t) (toL t) n t.rows i hi' hi with e | e
    · rw [e]; exact h.2.2 i hi'
    · rw [e]; exact toL_v h (h.2.2 i hi')
noncomputable def oldN (t : I_Table) : Int := if tV t then (t.rows.countP (oldB t) : Int) else -1
def noT : I_Table := ⟨[], [], []⟩
noncomputable def tR (t : I_Table) : List (List I_Value) := if tV t then t.rows.map (adv t) else []
def insT (t : I_Table) (r : List I_Value) : I_Table := ⟨t.first, t.changes, t.rows ++ [⟨t.changes.length, r⟩]⟩
def altT (t : I_Table) (c : I_Change) : I_Table := ⟨t.first, t.changes ++ [c], t.rows⟩
def canI (t : I_Table) (r : List I_Value) : Prop := tV t ∧ t.rows.length ≠ 10 ∧ fitP (fL t) r
noncomputable instance (t : I_Table) (r : List I_Value) : Decidable (canI t r) := Classical.propDecidable _
def canA (t : I_Table) (c : I_Change) : Prop := tV t ∧ t.changes.length ≠ 8 ∧ poss (fL t) c
noncomputable instance (t : I_Table) (c : I_Change) : Decidable (canA t c) := Classical.propDecidable _
theorem insT_v {t : I_Table} {r : List I_Value} (h : canI t r) : tV (insT t r) := by
  obtain ⟨h1, h2, h3⟩ := h
  have hl := h1.2.1
  refine ⟨h1.1, by show (t.rows ++ [_]).length ≤ 10; simp; omega, fun i hi => ?_⟩
  have hi' : i < (t.rows ++ [(⟨t.changes.length, r⟩ : I_Tagged)]).length := hi
  show rV t ((t.rows ++ [⟨t.changes.length, r⟩])[i]'hi')
  have hi'' := hi'
  rw [List.length_append, List.length_singleton] at hi''
  rcases Nat.lt_succ_iff_lt_or_eq.1 hi'' with h | rfl
  · rw [List.getElem_append_left h]; exact h1.2.2 i h
  · rw [List.getElem_append_right (Nat.le_refl _)]
    simp only [Nat.sub_self, List.getElem_cons_zero]
    exact ⟨Int.natCast_nonneg _, Int.le_refl _, h3⟩
theorem fA_app (f : List I_Column) {l : List I_Change} (c : I_Change) {i : Nat} (h : i ≤ l.length) : fA f (l ++ [c]) i = fA f l i := by
  unfold fA; rw [List.take_append_of_le_length h]
theorem gC_app {f : List I_Column} {l : List I_Change} {c : I_Change} : gC f (l ++ [c]) ↔ gC f l ∧ poss (fA f l l.length) c := by
  constructor
  · intro h
    refine ⟨fun i hi => ?_, ?_⟩
    · have := h i (by simp; omega)
      rw [fA_app f c (by omega), List.getElem_append_left hi] at this; exact this
    · have := h l.length (by simp)
      rw [fA_app f c (Nat.le_refl _), List.getElem_append_right (Nat.le_refl _)] at this
      simpa using this
  · rintro ⟨h1, h2⟩ i hi
    rw [List.length_append, List.length_singleton] at hi
    rw [fA_app f c (by omega)]
    rcases Nat.lt_succ_iff_lt_or_eq.1 hi with h | rfl
    · rw [List.getElem_append_left h]; exact h1 i h
    · rw [List.getElem_append_right (Nat.le_refl _)]
      simp only [Nat.sub_self, List.getElem_cons_zero]; exact h2
theorem altT_v {t : I_Table} {c : I_Change} (h : canA t c) : tV (altT t c) := by
  obtain ⟨h1, h2, h3⟩ := h
  have hl := h1.1.2.1
  refine ⟨⟨h1.1.1, by show (t.changes ++ [c]).length ≤ 8; simp; omega, gC_app.2 ⟨h1.1.2.2, h3⟩⟩, h1.2.1, fun i hi => ?_⟩
  have := h1.2.2 i hi
  refine ⟨this.1, ?_, ?_⟩
  · show t.rows[i].tag ≤ ((t.changes ++ [c]).length : Int)
    have := this.2.1
    simp; omega
  · show fitP (fA t.first (t.changes ++ [c]) t.rows[i].tag.toNat) t.rows[i].row
    rw [fA_app _ _ (by have := this.2.1; omega)]; exact this.2.2
section
variable {N : Nat} (hN : 100000000 ≤ N)
include hN
theorem lastI {t : I_Table} (hb : bT t) : m_I_Table_lastFormat N t = some (if tV t then (fL t, true) else ([], false)) := by
  have hcl := hb.c.1
  have hrl := hb.rl
  refine ok.val ?_
  unfold m_I_Table_lastFormat
  refine ok.eq (chainI hN hb.f hb.c) ?_
  by_cases ho : cO t.first t.changes
  · rw [if_pos ho]
    have hlen := chs_len t.first t.changes
    refine ok.bt rfl (ok.ite (fun h10 => ok.some ?_) fun h10 => ?_)
    · rw [if_neg fun e : tV t => by have := e.2.1; omega]
    · refine ok.call (P := fun o => (o = .inl () ∧ ∀ i (h : i < t.rows.length), rV t t.rows[i]) ∨ (o = .inr ([], false) ∧ ¬ ∀ i (h : i < t.rows.length), rV t t.rows[i])) (ok.each t.rows.length (fun i s => s = (i : Int) ∧ ∀ k (h : k < t.rows.length), k < i → rV t t.rows[k]) _ ?_ ?_ N 0 _ (Nat.zero_le _) ⟨rfl, fun k h hk => by omega⟩ (by omega)) ?_
      · rintro i s hi ⟨rfl, hg⟩
        show ok (m_I_Table_lastFormat_b1 N t _ (i : Int)) _
        unfold m_I_Table_lastFormat_b1
        refine ok.ift (by omega) (ok.eq (ixI_nat hi) (ok.ite (fun c1 => ok.some (.inr ⟨rfl, fun e => by have := (e i hi).1; omega⟩)) fun c1 => ok.ite (fun c2 => ok.some (.inr ⟨rfl, fun e => ?_⟩)) fun c2 => ?_))
        · have := (e i hi).2.1
          dsimp only at c2; omega
        · have hr := hb.r i hi
          dsimp only at c2
          have hv := cO_fA ho (i := t.rows[i].tag.toNat) (by omega)
          refine ok.eq (chs_ix (n := t.rows[i].tag.toNat) (by omega) (by omega)) (ok.eq (fitI hN (vF_bS hv) hr) (ok.ite (fun c3 => ok.chk (by omega) (ok.some ⟨by simp, fun k hk hki => ?_⟩)) fun c3 => ok.some (.inr ⟨rfl, fun e => c3 ⟨hv, (e i hi).2.2⟩⟩)))
          rcases Nat.lt_succ_iff_lt_or_eq.1 hki with h | rfl
          · exact hg k hk h
          · exact ⟨by omega, by omega, c3.2⟩
      · rintro s ⟨rfl, hg⟩
        show ok (m_I_Table_lastFormat_b1 N t _ _) _
        unfold m_I_Table_lastFormat_b1
        exact ok.iff (by omega) (ok.some (.inl ⟨rfl, fun k hk => hg k hk hk⟩))
      · rintro o (⟨rfl, h⟩ | ⟨rfl, h⟩)
        · rw [if_pos (show tV t from ⟨ho, by omega, h⟩)]
          show ok (m_I_Table_lastFormat_k1 N t _) _
          unfold m_I_Table_lastFormat_k1
          refine ok.eq (show m_I_Table_last N t = some (t.changes.length : Int) from rfl) (ok.eq (chs_ix rfl (Nat.le_refl _)) (ok.some rfl))
        · rw [if_neg fun e : tV t => h e.2.2]; exact ok.some rfl
  · rw [if_neg ho, if_neg fun e : tV t => ho e.1]
    exact ok.bf rfl (ok.some rfl)
theorem validTI {t : I_Table} (hb : bT t) : m_I_ValidTable N t = some (decide (tV t)) := by
  refine ok.val ?_
  unfold m_I_ValidTable
  refine ok.eq (lastI hN hb) (ok.some ?_)
  by_cases h : tV t
  · rw [if_pos h, decide_eq_true h]
  · rw [if_neg h, decide_eq_false h]
theorem validTS {t : I_Table} (hb : bT t) : m_S_validTable N t = some (decide (tV t)) := by
  have hcl := hb.c.1
  have hrl := hb.rl
  refine bool_eq ?_
  unfold m_S_validTable
  refine ok.eq (vchainS hN hb.f hb.c) (ok.ite (fun ho => ok.ite (fun h10 => ok.some ⟨fun e => (by cases e), fun e => by have := e.2.1; omega⟩) fun h10 => ?_) fun ho => ok.some ⟨fun e => (by cases e), fun e => (ho e.1).elim⟩)
  refine ok.eq (formatsS hN hb.f.1 (vF_bN ho.1) hb.c) ?_
  rw [if_pos ho.2.2]
  refine ok.call (all_ok (n := t.rows.length) 0 (fun i => ∀ (h : i < t.rows.length), rV t t.rows[i]) (by omega) (fun i hi _ => ?_) ?_) ?_
  · rw [Int.add_zero]
    show ok (m_S_validTable_b1 N t _ (i : Int)) _
    unfold m_S_validTable_b1
    refine ok.ift (by omega) (ok.eq (ixI_nat hi) (ok.eq (inRange_eq N _ _ _) (ok.ite (fun c1 => ?_) fun c1 => ok.some (.inr ⟨rfl, fun e => c1 ⟨(e hi).1, (e hi).2.1⟩⟩))))
    have hr := hb.r i hi
    have hv := cO_fA ho (i := t.rows[i].tag.toNat) (by omega)
    refine ok.eq (ixI_nat hi) (ok.eq (chs_ix (n := t.rows[i].tag.toNat) (by omega) (by omega)) (ok.eq (ixI_nat hi) (ok.eq (fitS hN hr hv.1.2) (ok.ite (fun c3 => ok.chk (by omega) (ok.some (.inl ⟨rfl, fun _ => ⟨c1.1, c1.2, c3⟩⟩))) fun c3 => ok.some (.inr ⟨rfl, fun e => c3 (e hi).2.2⟩)))))
  · rw [Int.add_zero]
    show m_S_validTable_b1 N t _ _ = _
    unfold m_S_validTable_b1
    rw [decide_eq_false (by omega)]; rfl
  · rintro o (⟨rfl, hh⟩ | ⟨rfl, hh⟩)
    · exact ok.some ⟨fun _ => ⟨ho, by omega, fun i hi => hh i hi hi⟩, fun _ => rfl⟩
    · exact ok.some ⟨fun e => (by cases e), fun e => (hh fun k hk h => e.2.2 k h).elim⟩
theorem read1I {t : I_Table} {r : I_Tagged} (h : tV t) (hc : bCs t.changes) (hr : rV t r) : m_I_Table_read N t r = some (adv t r) := by
  unfold m_I_Table_read
  refine ok.val ?_
  refine ok.eq (show m_I_Table_last N t = some (t.changes.length : Int) from rfl) (ok.eq (readI hN h.1 hc (n := r.tag.toNat) (by have := hr.1; omega) (by have := hr.2.1; omega) hr.2.2) (ok.some rfl))
theorem adv1S {t : I_Table} {r : I_Tagged} (h : tV t) (hr : rV t r) : m_S_advance N r.row (t.changes.drop r.tag.toNat) = some (adv t r) := advS hN h.1 (by have := hr.2.1; omega) hr.2.2
omit hN in
theorem map_take {α β : Type} (f : α → β) {xs : List α} {i : Nat} (h : i < xs.length) : (xs.take (i + 1)).map f = (xs.take i).map f ++ [f xs[i]] := by rw [take_succ1 h, List.map_append]; rfl
theorem rowsI {t : I_Table} (hb : bT t) : m_I_TableRows N t = some (tR t) := by
  have hrl := hb.rl
  refine ok.val ?_
  unfold m_I_TableRows tR
  refine ok.eq (validTI hN hb) (ok.ite (fun h => ?_) fun h => ok.some (by rw [if_neg h]))
  rw [if_pos h]
  refine ok.call (P := fun o => o = t.rows.map (adv t)) (ok.each t.rows.length (fun i s => s = ((i : Int), (t.rows.take i).map (adv t))) _ ?_ ?_ N 0 _ (Nat.zero_le _) rfl (by omega)) ?_
  · rintro i s hi rfl
    show ok (m_I_TableRows_b1 N t (i : Int) _) _
    unfold m_I_TableRows_b1
    refine ok.ift (by omega) (ok.eq (ixI_nat hi) (ok.eq (read1I hN h hb.c (h.2.2 i hi)) (ok.app (by simp; omega) (ok.chk (by omega) (ok.some ?_)))))
    rw [map_take _ hi]; simp
  · rintro s rfl
    show ok (m_I_TableRows_b1 N t _ _) _
    unfold m_I_TableRows_b1
    refine ok.iff (by omega) (ok.some ?_)
    rw [List.take_length]
  · rintro o rfl
    exact ok.some rfl
theorem latestS {t : I_Table} (h : tV t) : m_S_latest N t = some (t.rows.map (adv t)) := by
  have hrl := h.2.1
  have h8 := h.1.2.1
  refine ok.val ?_
  unfold m_S_latest
  refine ok.call (P := fun o => o = t.rows.map (adv t)) (ok.each t.rows.length (fun i s => s = ((i : Int), (t.rows.take i).map (adv t))) _ ?_ ?_ N 0 _ (Nat.zero_le _) rfl (by omega)) ?_
  · rintro i s hi rfl
    show ok (m_S_latest_b1 N t (i : Int) _) _
    unfold m_S_latest_b1
    have hr := h.2.2 i hi
    have h1 := hr.1
    have h2 := hr.2.1
    refine ok.ift (by omega) (ok.eq (ixI_nat hi) (ok.eq (ixI_nat hi) (ok.eq (subM_eq (by omega)) ?_)))
    rw [Int.toNat_natCast, List.take_of_length_le (by rw [List.length_drop]; exact Nat.le_refl _)]
    refine ok.eq (adv1S hN h hr) (ok.app (by simp; omega) (ok.chk (by omega) (ok.some ?_)))
    rw [map_take _ hi]; simp
  · rintro s rfl
    show ok (m_S_latest_b1 N t _ _) _
    unfold m_S_latest_b1
    refine ok.iff (by omega) (ok.some ?_)
    rw [List.take_length]
  · rintro o rfl
    exact ok.some rfl
theorem rowsS {t : I_Table} (hb : bT t) : m_S_TableRows N t = some (tR t) := by
  refine ok.val ?_
  unfold m_S_TableRows tR
  refine ok.eq (validTS hN hb) (ok.ite (fun h => ok.eq (latestS hN h) (ok.some (by rw [if_pos h]))) fun h => ok.some (by rw [if_neg h]))
omit hN in
theorem count_take {α : Type} (p : α → Bool) {xs : List α} {i : Nat} (h : i < xs.length) : (xs.take (i + 1)).countP p = (xs.take i).countP p + if p xs[i] = true then 1 else 0 := by
  rw [take_succ1 h, List.countP_append, List.countP_singleton]
omit hN in
theorem count_le {α : Type} (p : α → Bool) (xs : List α) (i : Nat) : (xs.take i).countP p ≤ i := by
  have := List.countP_le_length (p := p) (l := xs.take i)
  rw [List.length_take] at this; omega
theorem oldI {t : I_Table} (hb : bT t) : m_I_OldRows N t = some (oldN t) := by
  have hrl := hb.rl
  refine ok.val ?_
  unfold m_I_OldRows oldN
  refine ok.eq (validTI hN hb) (ok.ite (fun h => ?_) fun h => ok.some (by rw [if_neg h]))
  rw [if_pos h]
  refine ok.call (P := fun o => o = (t.rows.countP (oldB t) : Int)) (ok.each t.rows.length (fun i s => s = ((i : Int), ((t.rows.take i).countP (oldB t) : Int))) _ ?_ ?_ N 0 _ (Nat.zero_le _) rfl (by omega)) ?_
  · rintro i s hi rfl
    show ok (m_I_OldRows_b1 N t (i : Int) _) _
    unfold m_I_OldRows_b1
    have hle := count_le (oldB t) t.rows i
    refine ok.ift (by omega) (ok.eq (ixI_nat hi) (ok.eq (show m_I_Table_last N t = some (t.changes.length : Int) from rfl) (ok.ite (fun c => ok.chk (by omega) (ok.some ?_)) fun c => ok.chk (by dsimp only; omega) (ok.chk (by omega) (ok.some ?_)))))
    · rw [count_take _ hi, if_neg (by unfold oldB; simp [c])]; simp
    · rw [count_take _ hi, if_pos (by unfold oldB; simp [c])]; simp
  · rintro s rfl
    show ok (m_I_OldRows_b1 N t _ _) _
    unfold m_I_OldRows_b1
    refine ok.iff (by omega) (ok.some ?_)
    rw [List.take_length]
  · rintro o rfl
    exact ok.some rfl
theorem oldS {t : I_Table} (hb : bT t) : m_S_OldRows N t = some (oldN t) := by
  have hrl := hb.rl
  refine ok.val ?_
  unfold m_S_OldRows oldN
  refine ok.eq (validTS hN hb) (ok.ite (fun h => ?_) fun h => ok.some (by rw [if_neg h]))
  rw [if_pos h]
  refine ok.call (P := fun o => o = (t.rows.countP (oldB t) : Int)) (ok.each t.rows.length (fun i s => s = (((t.rows.take i).countP (oldB t) : Int), (i : Int))) _ ?_ ?_ N 0 _ (Nat.zero_le _) rfl (by omega)) ?_
  · rintro i s hi rfl
    show ok (m_S_OldRows_b1 N t _ (i : Int)) _
    unfold m_S_OldRows_b1
    have hle := count_le (oldB t) t.rows i
    have hr := (h.2.2 i hi).2.1
    refine ok.ift (by omega) (ok.eq (ixI_nat hi) ?_)
    by_cases c : t.rows[i].tag < (t.changes.length : Int)
    · rw [decide_eq_true c]
      refine ok.eq (show m_S_toInt N true = some 1 from rfl) (ok.chk (by omega) (ok.chk (by omega) (ok.some ?_)))
      rw [count_take _ hi, if_pos (by unfold oldB; rw [decide_eq_true_eq]; omega)]; simp
    · rw [decide_eq_false c]
      refine ok.eq (show m_S_toInt N false = some 0 from rfl) (ok.chk (by omega) (ok.chk (by omega) (ok.some ?_)))
      rw [count_take _ hi, if_neg (by unfold oldB; rw [decide_eq_true_eq]; omega)]; simp
  · rintro s rfl
    show ok (m_S_OldRows_b1 N t _ _) _
    unfold m_S_OldRows_b1
    refine ok.iff (by omega) (ok.some ?_)
    rw [List.take_length]
  · rintro o rfl
    exact ok.some rfl
end
end V
end Go.Proofs.YtemmcidmcojjjaaGreatDoor
namespace Go.Proofs
open Go.Shelf
def Tryz.lays143_ren : Go.Shelf.Ren := ⟨fun | 143 => 69 | 219 => 92 | 217 => 107 | 225 => 108 | 224 => 109 | 267 => 110 | 266 => 122 | 314 => 123 | n => n, fun | 9 => 9 | 3 => 3 | 4 => 4 | 5 => 5 | 46 => 129 | 146 => 145 | 51 => 144 | n => n, fun | 1 => 0 | n => n⟩
theorem Tryz.lays143 : Go.Proofs.Lays.n143 Tryz.prog Tryz.lays143_ren := {
  mixed := by kernel_rfl
  f143 := Tryz.func69.trans (congrArg some (by kernel_rfl))
  f217 := Tryz.func107.trans (congrArg some (by kernel_rfl))
  f219 := Tryz.func92.trans (congrArg some (by kernel_rfl))
  f224 := Tryz.func109.trans (congrArg some (by kernel_rfl))
  f225 := Tryz.func108.trans (congrArg some (by kernel_rfl))
  f266 := Tryz.func122.trans (congrArg some (by kernel_rfl))
  f267 := Tryz.func110.trans (congrArg some (by kernel_rfl))
  f314 := Tryz.func123.trans (congrArg some (by kernel_rfl))
  t3 := Tryz.underlying3
  a3 := Tryz.isAgg3
  z3 := Tryz.sizeOf3
  v3 := Tryz.zeroValue3
  t4 := Tryz.underlying4
  a4 := Tryz.isAgg4
  z4 := Tryz.sizeOf4
  v4 := Tryz.zeroValue4
  t5 := Tryz.underlying5
  a5 := Tryz.isAgg5
  z5 := Tryz.sizeOf5
  v5 := Tryz.zeroValue5
  t9 := Tryz.underlying9
  a9 := Tryz.isAgg9
  z9 := Tryz.sizeOf9
  v9 := Tryz.zeroValue9
  t46 := Tryz.underlying129
  a46 := Tryz.isAgg129
  z46 := Tryz.sizeOf129
  v46 := Tryz.zeroValue129
  t51 := Tryz.underlying144
  a51 := Tryz.isAgg144
  z51 := Tryz.sizeOf144
  v51 := Tryz.zeroValue144
  t146 := Tryz.underlying145
  a146 := Tryz.isAgg145
  z146 := Tryz.sizeOf145
  v146 := Tryz.zeroValue145
  g1 := by kernel_rfl }
def Tryz.lays138_ren : Go.Shelf.Ren := ⟨fun | 138 => 68 | 195 => 89 | 218 => 91 | 143 => 69 | 219 => 92 | 217 => 107 | 225 => 108 | 224 => 109 | 267 => 110 | 266 => 122 | 314 => 123 | n => n, fun | 9 => 9 | 3 => 3 | 4 => 4 | 5 => 5 | 0 => 0 | 46 => 129 | 146 => 145 | 51 => 144 | n => n, fun | 1 => 0 | n => n⟩
theorem Tryz.lays138 : Go.Proofs.Lays.n138 Tryz.prog Tryz.lays138_ren := {
  mixed := by kernel_rfl
  f138 := Tryz.func68.trans (congrArg some (by kernel_rfl))
  f143 := Tryz.func69.trans (congrArg some (by kernel_rfl))
  f195 := Tryz.func89.trans (congrArg some (by kernel_rfl))
  f217 := Tryz.func107.trans (congrArg some (by kernel_rfl))
  f218 := Tryz.func91.trans (congrArg some (by kernel_rfl))
  f219 := Tryz.func92.trans (congrArg some (by kernel_rfl))
  f224 := Tryz.func109.trans (congrArg some (by kernel_rfl))
  f225 := Tryz.func108.trans (congrArg some (by kernel_rfl))
  f266 := Tryz.func122.trans (congrArg some (by kernel_rfl))
  f267 := Tryz.func110.trans (congrArg some (by kernel_rfl))
  f314 := Tryz.func123.trans (congrArg some (by kernel_rfl))
  t0 := Tryz.underlying0
  a0 := Tryz.isAgg0
  z0 := Tryz.sizeOf0
  v0 := Tryz.zeroValue0
  t3 := Tryz.underlying3
  a3 := Tryz.isAgg3
  z3 := Tryz.sizeOf3
  v3 := Tryz.zeroValue3
  t4 := Tryz.underlying4
  a4 := Tryz.isAgg4
  z4 := Tryz.sizeOf4
  v4 := Tryz.zeroValue4
  t5 := Tryz.underlying5
  a5 := Tryz.isAgg5
  z5 := Tryz.sizeOf5
  v5 := Tryz.zeroValue5
  t9 := Tryz.underlying9
  a9 := Tryz.isAgg9
  z9 := Tryz.sizeOf9
  v9 := Tryz.zeroValue9
  t46 := Tryz.underlying129
  a46 := Tryz.isAgg129
  z46 := Tryz.sizeOf129
  v46 := Tryz.zeroValue129
  t51 := Tryz.underlying144
  a51 := Tryz.isAgg144
  z51 := Tryz.sizeOf144
  v51 := Tryz.zeroValue144
  t146 := Tryz.underlying145
  a146 := Tryz.isAgg145
  z146 := Tryz.sizeOf145
  v146 := Tryz.zeroValue145
  g1 := by kernel_rfl }
def Tryz.lays156_ren : Go.Shelf.Ren := ⟨fun | 156 => 54 | 165 => 80 | 166 => 18 | 169 => 21 | 240 => 23 | 241 => 99 | 276 => 44 | 277 => 114 | n => n, fun | 31 => 23 | 9 => 9 | 3 => 3 | 4 => 4 | 0 => 0 | 20 => 20 | 72 => 46 | 76 => 49 | 70 => 44 | 37 => 22 | 75 => 48 | 127 => 70 | 164 => 76 | 5 => 5 | 80 => 53 | n => n, fun | n => n⟩
theorem Tryz.lays156 : Go.Proofs.Lays.n156 Tryz.prog Tryz.lays156_ren := {
  mixed := by kernel_rfl
  f156 := Tryz.func54.trans (congrArg some (by kernel_rfl))
  f165 := Tryz.func80.trans (congrArg some (by kernel_rfl))
  f166 := Tryz.func18.trans (congrArg some (by kernel_rfl))
  f169 := Tryz.func21.trans (congrArg some (by kernel_rfl))
  f240 := Tryz.func23.trans (congrArg some (by kernel_rfl))
  f241 := Tryz.func99.trans (congrArg some (by kernel_rfl))
  f276 := Tryz.func44.trans (congrArg some (by kernel_rfl))
  f277 := Tryz.func114.trans (congrArg some (by kernel_rfl))
  t0 := Tryz.underlying0
  a0 := Tryz.isAgg0
  z0 := Tryz.sizeOf0
  v0 := Tryz.zeroValue0
  t3 := Tryz.underlying3
  a3 := Tryz.isAgg3
  z3 := Tryz.sizeOf3
  v3 := Tryz.zeroValue3
  t4 := Tryz.underlying4
  a4 := Tryz.isAgg4
  z4 := Tryz.sizeOf4
  v4 := Tryz.zeroValue4
  t9 := Tryz.underlying9
  a9 := Tryz.isAgg9
  z9 := Tryz.sizeOf9
  v9 := Tryz.zeroValue9
  t20 := Tryz.underlying20
  a20 := Tryz.isAgg20
  z20 := Tryz.sizeOf20
  v20 := Tryz.zeroValue20
  t31 := Tryz.underlying23
  a31 := Tryz.isAgg23
  z31 := Tryz.sizeOf23
  v31 := Tryz.zeroValue23
  t37 := Tryz.underlying22
  a37 := Tryz.isAgg22
  z37 := Tryz.sizeOf22
  v37 := Tryz.zeroValue22
  t70 := Tryz.underlying44
  a70 := Tryz.isAgg44
  z70 := Tryz.sizeOf44
  v70 := Tryz.zeroValue44
  t72 := Tryz.underlying46
  a72 := Tryz.isAgg46
  z72 := Tryz.sizeOf46
  v72 := Tryz.zeroValue46
  t75 := Tryz.underlying48
  a75 := Tryz.isAgg48
  z75 := Tryz.sizeOf48
  v75 := Tryz.zeroValue48
  t76 := Tryz.underlying49
  a76 := Tryz.isAgg49
  z76 := Tryz.sizeOf49
  v76 := Tryz.zeroValue49
  t127 := Tryz.underlying70
  a127 := Tryz.isAgg70
  z127 := Tryz.sizeOf70
  v127 := Tryz.zeroValue70
  t164 := Tryz.underlying76
  a164 := Tryz.isAgg76
  z164 := Tryz.sizeOf76
  v164 := Tryz.zeroValue76 }
theorem Tryz.bx156 : Builder.Extra Tryz.prog Tryz.lays156_ren := {
  sizeBuilder := by kernel_rfl
  liesBuilder := by kernel_rfl
  t5 := Tryz.underlying5
  a5 := Tryz.isAgg5
  z5 := Tryz.sizeOf5
  v5 := Tryz.zeroValue5
  infoByte := by kernel_rfl
  cellsByte := by kernel_rfl
  sizeByte := by kernel_rfl
  neB5 := by decide }
end Go.Proofs
namespace Go.Proofs.YtemmcidmcojjjaaGreatDoor
namespace V
def one1 (t : ByteArray) : Option UInt8 := match t.data.toList with | [c] => some c | _ => none
theorem one1_spec {t : ByteArray} {c : UInt8} (h : one1 t = some c) : t = ⟨#[c]⟩ := by
  unfold one1 at h
  split at h
  · rename_i c' e
    cases h
    apply ByteArray.ext
    exact Array.ext' (by simpa using e)
  · cases h
def m_strings_Count (N : Nat) (p_s p_t : ByteArray) : Option Int := (one1 p_t).map fun c => (Lib.countByte p_s.data.toList c : Int)
def m_strings_Index (N : Nat) (p_s p_t : ByteArray) : Option Int := (one1 p_t).map fun c => Lib.indexByte p_s.data.toList c
theorem w_strings_Count (N : Nat) (p_s p_t : ByteArray) (r : Int) (hh0 : m_strings_Count N p_s p_t = some r) : FnX Tryz.prog 68 [] [sA p_s, sA p_t] (RE (iA r) []) := by
  unfold m_strings_Count at hh0
  obtain ⟨c, h1, rfl⟩ := Option.map_eq_some_iff.1 hh0
  obtain rfl := one1_spec h1
  intro s U av S hV ha
  obtain ⟨hal, har⟩ := ha
  obtain ⟨y, z, rfl⟩ : ∃ y z, av = [y, z] := by
    match av, hal with
    | [y, z], _ => exact ⟨y, z, rfl⟩
  obtain rfl := Rel.int (har 0 _ y rfl rfl)
  obtain rfl := Rel.int (har 1 _ z rfl rfl)
  refine (Any.strings_Count_one Tryz.lays138 p_s c s.w).mono ?_
  rintro e w' ⟨rfl, rfl⟩
  exact ⟨_, iA _, [], s.L, U, rfl, ⟨rfl, rfl⟩, .t _ _ (.v _ rfl), S⟩
theorem w_strings_Index (N : Nat) (p_s p_t : ByteArray) (r : Int) (hh0 : m_strings_Index N p_s p_t = some r) : FnX Tryz.prog 69 [] [sA p_s, sA p_t] (RE (iA r) []) := by
  unfold m_strings_Index at hh0
  obtain ⟨c, h1, rfl⟩ := Option.map_eq_some_iff.1 hh0
  obtain rfl := one1_spec h1
  intro s U av S hV ha
  obtain ⟨hal, har⟩ := ha
  obtain ⟨y, z, rfl⟩ : ∃ y z, av = [y, z] := by
    match av, hal with
    | [y, z], _ => exact ⟨y, z, rfl⟩
  obtain rfl := Rel.int (har 0 _ y rfl rfl)
  obtain rfl := Rel.int (har 1 _ z rfl rfl)
  refine (Any.strings_Index_one Tryz.lays143 p_s c s.w).mono ?_
  rintro e w' ⟨rfl, rfl⟩
  exact ⟨_, iA _, [], s.L, U, rfl, ⟨rfl, rfl⟩, .t _ _ (.v _ rfl), S⟩
def joinB (xs : List ByteArray) (sep : ByteArray) : ByteArray := ⟨(Lib.join (xs.map (·.data.toList)) sep.data.toList).toArray⟩
def m_strings_Join (N : Nat) (p_e : List ByteArray) (p_s : ByteArray) : Option ByteArray := if p_e.length ≤ 140737488355328 ∧ (joinB p_e p_s).size ≤ 140737488355328 then some (joinB p_e p_s) else none
theorem eL_str : ∀ xs : List ByteArray, eL xs = xs.map fun x => Tr.v (.string x)
  | [] => rfl
  | x :: xs => by
    have := eL_str xs
    show _ :: eL xs = _
    rw [this]; rfl
theorem w_strings_Join (N : Nat) (p_e : List ByteArray) (p_s : ByteArray) (r : ByteArray) (hh0 : m_strings_Join N p_e p_s = some r) : FnX Tryz.prog 54 [] [sL p_e, sA p_s] (RE (sA r) []) := by
  unfold m_strings_Join at hh0
  split at hh0
  case isFalse => cases hh0
  rename_i hb
  obtain rfl := (Option.some.inj hh0).symm
  intro s U av S hV ha
  obtain ⟨hal, har⟩ := ha
  obtain ⟨y, z, rfl⟩ : ∃ y z, av = [y, z] := by
    match av, hal with
    | [y, z], _ => exact ⟨y, z, rfl⟩
  have hy := har 0 _ y rfl rfl
  obtain rfl := Rel.int (har 1 _ z rfl rfl)
  have hsz : (joinB p_e p_s).size = (Lib.join (p_e.map (·.data.toList)) p_s.data.toList).length := by
    show (Lib.join (p_e.map (·.data.toList)) p_s.data.toList).toArray.size = _
    rw [List.size_toArray]
  rw [hsz] at hb
  by_cases h0 : p_e = []
  · subst h0
    obtain ⟨a, c, rfl⟩ : ∃ a c, y = .slice a 0 c := by
      cases hy with | t _ _ h =>
        generalize hq : (Tr.sl ([] : List ByteArray).length (eL ([] : List ByteArray))) = q at h
        cases h with
        | v x hp => cases hq
        | nil => exact ⟨_, _, rfl⟩
        | sl B off n cap cs ys hU hl h1 hc hr hn => cases hq; exact ⟨_, _, rfl⟩
        | pt => cases hq
        | fn => cases hq
        | sl0 a cap => exact ⟨_, _, rfl⟩
    refine (Any.strings_Join_none Tryz.lays156 Tryz.bx156 a c p_s s.w).mono ?_
    rintro e w' ⟨rfl, rfl⟩
    exact ⟨_, sA (joinB [] p_s), [], s.L, U, rfl, ⟨rfl, rfl⟩, .t _ _ (.v _ rfl), S⟩
  · have hpos : 0 < p_e.length := List.length_pos_iff.2 h0
    have he : eL p_e = p_e.map fun x => Tr.v (.string x) := eL_str p_e
    obtain ⟨B, off, cap, hUB, hcells, hcap, rfl⟩ : ∃ B off cap, U B ∧ (∀ (j : Nat) x, p_e[j]? = some x → s.w.cell? ⟨B, off + j, none⟩ = some (.string x)) ∧ p_e.length ≤ cap ∧ y = .slice (some ⟨B, off, none⟩) p_e.length cap := by
      cases hy with | t _ _ h =>
        generalize hq : (Tr.sl p_e.length (eL p_e)) = q at h
        cases h with
        | v x hp => cases hq
        | nil =>
          have hq := congrArg (fun t : Tr => match t with | .sl n _ => n | _ => 0) hq
          exact absurd hq (by show ¬ p_e.length = 0; omega)
        | pt => cases hq
        | fn => cases hq
        | sl0 a cap =>
          have hq := congrArg (fun t : Tr => match t with | .sl n _ => n | _ => 0) hq
          exact absurd hq (by show ¬ p_e.length = 0; omega)
        | sl B off n cap cs ys hU hl h1 hc hr hn =>
          cases hq
          refine ⟨B, off, cap, hU, fun j x hx => ?_, hn, rfl⟩
          have hj : (eL p_e)[j]? = some (.v (.string x)) := by rw [he, List.getElem?_map, hx]; rfl
          have hjl : j < ys.length := by rw [hl]; exact (List.getElem?_eq_some_iff.1 hj).1
          have hyj : ys[j]? = some ys[j] := List.getElem?_eq_getElem hjl
          have hR := hr j _ _ hj hyj
          rw [hc j _ hyj]
          generalize ys[j] = u at hR
          cases hR
          rfl
    refine (Any.strings_Join Tryz.lays156 Tryz.bx156 B off cap p_e p_s s.w hcells (S.u B hUB).1.1 hb.1 hcap hb.2).mono ?_
    rintro e w' ⟨rfl, hbw⟩
    exact ⟨_, sA (joinB p_e p_s), [], s.L, U, rfl, ⟨rfl, rfl⟩, .t _ _ (.v _ rfl), S.below hbw⟩
end V
end Go.Proofs.YtemmcidmcojjjaaGreatDoor
namespace Go.Proofs.YtemmcidmcojjjaaGreatDoor
namespace V
open Enc (enc)
set_option maxHeartbeats 4000000
set_option maxRecDepth 100000
open Go.RowKit
attribute [local irreducible] thA inA FinA eL
def m_strings_genSplit_k1 (N : Nat) (s33 : ByteArray) (i34 : Int) (v35 : (List ByteArray)) : Option ((List ByteArray)) :=
  (ixI v35 i34).bind fun x41 =>
  (chk (i34 + (1 : Int))).bind fun n43 =>
  (V.subM (v35.set i34.toNat s33) (0 : Int) n43).bind fun xs45 =>
  some xs45
def m_strings_genSplit_b1 (N : Nat) (p_sep : ByteArray) (p_sepSave : Int) (n12 : Int) (s14 : ByteArray) (i15 : Int) (v16 : (List ByteArray)) : Option ((ByteArray × Int × (List ByteArray)) ⊕ (ByteArray × Int × (List ByteArray))) :=
  cond (decide (i15 < n12))
    ((m_strings_Index N s14 p_sep).bind fun r48 =>
    cond (decide (r48 < (0 : Int)))
      (some (.inr (s14, i15, v16)))
      ((chk (r48 + p_sepSave)).bind fun n51 =>
      (subS s14 (0 : Int) n51).bind fun s53 =>
      (ixI v16 i15).bind fun x55 =>
      (chk (r48 + (p_sep.size : Int))).bind fun n57 =>
      (subS s14 n57 (s14.size : Int)).bind fun s59 =>
      (chk (i15 + (1 : Int))).bind fun n61 =>
      some (.inl (s59, n61, (v16.set i15.toNat s53)))))
    (some (.inr (s14, i15, v16)))
def m_strings_genSplit_k2 (N : Nat) (s88 : ByteArray) (i89 : Int) (v90 : (List ByteArray)) : Option ((List ByteArray)) :=
  (ixI v90 i89).bind fun x96 =>
  (chk (i89 + (1 : Int))).bind fun n98 =>
  (V.subM (v90.set i89.toNat s88) (0 : Int) n98).bind fun xs100 =>
  some xs100
def m_strings_genSplit_b2 (N : Nat) (p_sep : ByteArray) (p_sepSave : Int) (n67 : Int) (s69 : ByteArray) (i70 : Int) (v71 : (List ByteArray)) : Option ((ByteArray × Int × (List ByteArray)) ⊕ (ByteArray × Int × (List ByteArray))) :=
  cond (decide (i70 < n67))
    ((m_strings_Index N s69 p_sep).bind fun r103 =>
    cond (decide (r103 < (0 : Int)))
      (some (.inr (s69, i70, v71)))
      ((chk (r103 + p_sepSave)).bind fun n106 =>
      (subS s69 (0 : Int) n106).bind fun s108 =>
      (ixI v71 i70).bind fun x110 =>
      (chk (r103 + (p_sep.size : Int))).bind fun n112 =>
      (subS s69 n112 (s69.size : Int)).bind fun s114 =>
      (chk (i70 + (1 : Int))).bind fun n116 =>
      some (.inl (s114, n116, (v71.set i70.toNat s108)))))
    (some (.inr (s69, i70, v71)))
def m_strings_genSplit (N : Nat) (p_s : ByteArray) (p_sep : ByteArray) (p_sepSave : Int) (p_n : Int) : Option ((List ByteArray)) :=
  cond (decide (p_n = (0 : Int)))
    (some ([] : List ByteArray))
    (cond (p_sep.toList == ByteArray.empty.toList)
      (none)
      (cond (decide (p_n < (0 : Int)))
        ((m_strings_Count N p_s p_sep).bind fun r4 =>
        (chk (r4 + (1 : Int))).bind fun n6 =>
        (chk ((p_s.size : Int) + (1 : Int))).bind fun n8 =>
        (mkM 16 ByteArray.empty (min n6 n8)).bind fun xs10 =>
        (chk ((min n6 n8) - (1 : Int))).bind fun n12 =>
        (loopM (β := ByteArray × Int × (List ByteArray)) (fun s : ByteArray × Int × (List ByteArray) => m_strings_genSplit_b1 N p_sep p_sepSave n12 s.1 s.2.1 s.2.2) N (p_s, (0 : Int), xs10)).bind fun e =>
        m_strings_genSplit_k1 N e.1 e.2.1 e.2.2)
        ((chk ((p_s.size : Int) + (1 : Int))).bind fun n63 =>
        (mkM 16 ByteArray.empty (min p_n n63)).bind fun xs65 =>
        (chk ((min p_n n63) - (1 : Int))).bind fun n67 =>
        (loopM (β := ByteArray × Int × (List ByteArray)) (fun s : ByteArray × Int × (List ByteArray) => m_strings_genSplit_b2 N p_sep p_sepSave n67 s.1 s.2.1 s.2.2) N (p_s, (0 : Int), xs65)).bind fun e =>
        m_strings_genSplit_k2 N e.1 e.2.1 e.2.2)))
theorem w_strings_genSplit (N : Nat) (p_s : ByteArray) (p_sep : ByteArray) (p_sepSave : Int) (p_n : Int) (r : (List ByteArray)) (hh0 : m_strings_genSplit N p_s p_sep p_sepSave p_n = some r) : FnX Tryz.prog 45 [] [sA p_s, sA p_sep, iA p_sepSave, iA p_n] (RE (.os 0 0 r.length) [⟨.tr (eL r), 9, 1⟩]) := by
  unfold m_strings_genSplit at hh0; refine FnX.mk Tryz.func45 rfl rfl ?_; intro s hs; refine PC.seq ?_; refine PC.rg ?_; refine PL.aT rfl rfl ?_; refine PL.nn ?_; (iterate 2 refine PC.seq ?_); refine PC.rg ?_; refine PL.mT rfl rfl ?_; refine PL.op rfl (Rd.eql rfl rfl) ?_; refine PL.nn ?_; rcases cond_some hh0 with ⟨h_1, hh0⟩ | ⟨h_1, hh0⟩
  · refine PC.ct rfl h_1 ?_; refine PC.seq ?_; refine PC.rg ?_; refine PL.aT rfl rfl ?_; refine PL.nn ?_; refine PC.ret ?_; refine thA_r ?_; obtain rfl := some_in hh0; exact FinA.mk (r := .os 0 0 0) (bl := [⟨.tr (eL ([] : List ByteArray)), 9, 1⟩]) [none] (.inl rfl) rfl (rl := [.tmp 8]) (.tmp .nil) rfl rfl rfl (.osn rfl) ⟨ow_nil _, trivial⟩ ⟨rfl, rfl⟩
  refine PC.cf rfl h_1 ?_; refine PC.skip ?_; refine thA_n ?_; (iterate 2 refine PC.seq ?_); refine PC.rg ?_; refine PL.mT rfl rfl ?_; refine PL.op rfl (Rd.eqlS rfl rfl) ?_; refine PL.nn ?_; rcases cond_some hh0 with ⟨h_2, hh0⟩ | ⟨h_2, hh0⟩
  · refine PC.ct rfl h_2 ?_; refine PC.seq ?_; cases hh0
  refine PC.cf rfl h_2 ?_; refine PC.skip ?_; refine thA_n ?_; (iterate 2 refine PC.seq ?_); refine PC.rg ?_; refine PL.mT rfl rfl ?_; refine PL.op rfl (Rd.lss rfl rfl) ?_; refine PL.nn ?_; rcases cond_some hh0 with ⟨h_3, hh0⟩ | ⟨h_3, hh0⟩; rotate_left
  · refine PC.cf rfl h_3 ?_; refine PC.skip ?_; refine thA_n ?_; refine PC.seq ?_; obtain ⟨n63, h_64, hh0⟩ := bind_some hh0; refine PC.rg ?_; (iterate 2 refine PL.mT rfl rfl ?_); refine PL.op rfl (Rd.lenSt rfl) ?_; refine PL.op rfl (Rd.addM rfl rfl h_64) ?_; refine PL.op rfl (Rd.min2 rfl rfl) ?_; refine PL.aT rfl rfl ?_; refine PL.nn ?_; refine PC.seq ?_; obtain ⟨xs65, h_66, hh0⟩ := bind_some hh0; refine PC.rg ?_; refine PL.mT rfl rfl ?_; refine PL.ef rfl (Ef.makeM ByteArray.empty rfl rfl h_66 rfl rfl rfl (by exact ⟨.inl ⟨rfl, rfl⟩, trivial⟩)) ?_; refine PL.nm (.os 0 0 xs65.length) [some ⟨.tr (eL xs65), 9, 1⟩] rfl rfl ?_; refine PL.op rfl (Rd.asnO rfl) ?_; refine PL.nn ?_; refine PC.seq ?_; obtain ⟨n67, h_68, hh0⟩ := bind_some hh0; refine PC.rg ?_; refine PL.mT rfl rfl ?_; refine PL.op rfl (Rd.subM rfl rfl h_68) ?_; refine PL.aT rfl rfl ?_; refine PL.nn ?_; refine PC.seq ?_; refine PC.rg ?_; refine PL.aT rfl rfl ?_; refine PL.nn ?_; obtain ⟨o91, h_92, hh0⟩ := bind_some hh0; refine PC.cut hs (fun x : ByteArray × Int × (List ByteArray) => [(0, sA x.1), (9, .os 0 0 x.2.2.length), (10, iA x.2.1)]) (fun x => [⟨.tr (eL x.2.2), 9, 1⟩]) (fun x => m_strings_genSplit_k2 N x.1 x.2.1 x.2.2 = some r) ?_ ?_
    · refine PC.block ?_; refine PC.loop hs (fun x : Nat × (ByteArray × Int × (List ByteArray)) => [(0, sA x.2.1), (1, sA p_sep), (2, iA p_sepSave), (3, iA n67), (9, .os 0 0 x.2.2.2.length), (10, iA x.2.2.1)]) (fun x => [⟨.tr (eL x.2.2.2), 9, 1⟩]) (fun x => loopM (β := ByteArray × Int × (List ByteArray)) (fun s : ByteArray × Int × (List ByteArray) => m_strings_genSplit_b2 N p_sep p_sepSave n67 s.1 s.2.1 s.2.2) x.1 x.2 = some o91) (fun x => x.1) (N, (p_s, (0 : Int), xs65)) [some 0] ⟨rfl, rfl, ⟨⟨_, rfl, rfl, rfl, .tr _⟩, trivial⟩, ⟨.t _, .t _, .t _, .t _, .os rfl, .t _, trivial⟩⟩ h_92 ?_
      rintro ⟨f93_, s69, i70, v71⟩ h_95
      obtain ⟨f93, y94, rfl, hh1, kk1⟩ := loopM_some h_95
      replace hh1 : m_strings_genSplit_b2 N p_sep p_sepSave n67 s69 i70 v71 = some y94 := hh1
      unfold m_strings_genSplit_b2 at hh1; (iterate 2 refine PC.seq ?_); refine PC.rg ?_; (iterate 2 refine PL.mT rfl rfl ?_); refine PL.op rfl (Rd.lss rfl rfl) ?_; refine PL.nn ?_; rcases cond_some hh1 with ⟨h_102, hh1⟩ | ⟨h_102, hh1⟩; rotate_left
      · refine PC.cf rfl h_102 ?_; refine PC.exit ?_; (iterate 2 refine thA_e ?_); refine inA_eq rfl ?_; refine thA_n ?_; obtain rfl := some_in hh1; obtain rfl : ((s69, i70, v71) : ByteArray × Int × (List ByteArray)) = o91 := kk1; exact ⟨(s69, i70, v71), hh0, [some 0], ⟨rfl, rfl, ⟨⟨_, rfl, rfl, rfl, .tr _⟩, trivial⟩, ⟨.t _, .os rfl, .t _, trivial⟩⟩⟩
      refine PC.ct rfl h_102 ?_; refine PC.skip ?_; refine thA_n ?_; refine PC.block ?_; refine PC.seq ?_; obtain ⟨r103, h_104, hh1⟩ := bind_some hh1; refine PC.rg ?_; (iterate 2 refine PL.mT rfl rfl ?_); refine PL.callM false [] (w_strings_Index N s69 p_sep r103 h_104) rfl Tryz.call69 rfl ⟨.t _, .t _, trivial⟩ rfl trivial (fun h => by cases h) ?_; refine PL.aT rfl rfl ?_; refine PL.nn ?_; (iterate 2 refine PC.seq ?_); refine PC.rg ?_; refine PL.mT rfl rfl ?_; refine PL.op rfl (Rd.lss rfl rfl) ?_; refine PL.nn ?_; rcases cond_some hh1 with ⟨h_105, hh1⟩ | ⟨h_105, hh1⟩
      · refine PC.ct rfl h_105 ?_; refine PC.exit ?_; refine thA_e ?_; refine inA_ne rfl ?_; refine thA_e ?_; refine inA_eq rfl ?_; refine thA_n ?_; obtain rfl := some_in hh1; obtain rfl : ((s69, i70, v71) : ByteArray × Int × (List ByteArray)) = o91 := kk1; exact ⟨(s69, i70, v71), hh0, [some 0], ⟨rfl, rfl, ⟨⟨_, rfl, rfl, rfl, .tr _⟩, trivial⟩, ⟨.t _, .os rfl, .t _, trivial⟩⟩⟩
      refine PC.cf rfl h_105 ?_; refine PC.skip ?_; refine thA_n ?_; refine PC.seq ?_; obtain ⟨n106, h_107, hh1⟩ := bind_some hh1; obtain ⟨s108, h_109, hh1⟩ := bind_some hh1; obtain ⟨x110, h_111, hh1⟩ := bind_some hh1; refine PC.rg ?_; refine PL.op rfl (Rd.moveO rfl) ?_; (iterate 4 refine PL.mT rfl rfl ?_); refine PL.op rfl (Rd.addM rfl rfl h_107) ?_; refine PL.op rfl (Rd.subSMH rfl rfl h_109) ?_; refine PL.op rfl (Rd.ixOM rfl rfl rfl (ixI_lt h_111)) ?_; refine PL.stRM s108 rfl rfl rfl rfl rfl h_111 rfl ?_; refine PL.nO [some ⟨.tr (eL (v71.set i70.toNat s108)), 9, 1⟩] rfl ?_; refine PL.nn ?_; refine PC.seq ?_; obtain ⟨n112, h_113, hh1⟩ := bind_some hh1; obtain ⟨s114, h_115, hh1⟩ := bind_some hh1; refine PC.rg ?_; (iterate 3 refine PL.mT rfl rfl ?_); refine PL.op rfl (Rd.lenSt rfl) ?_; refine PL.op rfl (Rd.addM rfl rfl h_113) ?_; refine PL.op rfl (Rd.subSML rfl rfl h_115) ?_; refine PL.aT rfl rfl ?_; refine PL.nn ?_; obtain ⟨n116, h_117, hh1⟩ := bind_some hh1; refine PC.rg ?_; refine PL.mT rfl rfl ?_; refine PL.op rfl (Rd.addM rfl rfl h_117) ?_; refine PL.aT rfl rfl ?_; refine PL.nil ?_; refine inA_n ?_; obtain rfl := some_in hh1; refine thA_n ?_; exact ⟨(f93, (s114, n116, (v71.set i70.toNat s108))), Nat.lt_succ_self _, kk1, [some 0], ⟨rfl, rfl, ⟨⟨_, rfl, rfl, rfl, .tr _⟩, trivial⟩, ⟨.t _, .t _, .t _, .t _, .osE rfl (by simp only [List.length_set]), .t _, trivial⟩⟩⟩
    clear hh0
    rintro ⟨s88, i89, v90⟩ hh0
    replace hh0 : m_strings_genSplit_k2 N s88 i89 v90 = some r := hh0
    unfold m_strings_genSplit_k2 at hh0; refine PC.seq ?_; obtain ⟨x96, h_97, hh0⟩ := bind_some hh0; refine PC.rg ?_; refine PL.op rfl (Rd.moveO rfl) ?_; (iterate 2 refine PL.mT rfl rfl ?_); refine PL.op rfl (Rd.ixOM rfl rfl rfl (ixI_lt h_97)) ?_; refine PL.stRM s88 rfl rfl rfl rfl rfl h_97 rfl ?_; refine PL.nO [some ⟨.tr (eL (v90.set i89.toNat s88)), 9, 1⟩] rfl ?_; refine PL.nn ?_; refine PC.seq ?_; obtain ⟨n98, h_99, hh0⟩ := bind_some hh0; obtain ⟨xs100, h_101, hh0⟩ := bind_some hh0; refine PC.rg ?_; refine PL.op rfl (Rd.moveO rfl) ?_; refine PL.mT rfl rfl ?_; refine PL.op rfl (Rd.addM rfl rfl h_99) ?_; refine PL.cutM rfl rfl rfl (by simp only [List.length_set]) rfl h_101 ?_; refine PL.nm (.os 0 0 xs100.length) [some ⟨.tr (eL xs100), 9, 1⟩] rfl rfl ?_; refine PL.op rfl (Rd.asnO rfl) ?_; refine PL.nn ?_; refine PC.ret ?_; obtain rfl := some_in hh0; exact FinA.mk (r := .os 0 0 xs100.length) (bl := [⟨.tr (eL xs100), 9, 1⟩]) [some 0] (.inl rfl) rfl (rl := [.tmp 8]) (.tmp .nil) rfl rfl rfl (.os rfl) ⟨⟨_, rfl, rfl, rfl, .tr _⟩, trivial⟩ ⟨rfl, rfl⟩
  refine PC.ct rfl h_3 ?_; obtain ⟨r4, h_5, hh0⟩ := bind_some hh0; obtain ⟨n6, h_7, hh0⟩ := bind_some hh0; refine PC.rg ?_; (iterate 2 refine PL.mT rfl rfl ?_); refine PL.callM false [] (w_strings_Count N p_s p_sep r4 h_5) rfl Tryz.call68 rfl ⟨.t _, .t _, trivial⟩ rfl trivial (fun h => by cases h) ?_; refine PL.op rfl (Rd.addM rfl rfl h_7) ?_; refine PL.aT rfl rfl ?_; refine PL.nn ?_; refine PC.seq ?_; obtain ⟨n8, h_9, hh0⟩ := bind_some hh0; refine PC.rg ?_; (iterate 2 refine PL.mT rfl rfl ?_); refine PL.op rfl (Rd.lenSt rfl) ?_; refine PL.op rfl (Rd.addM rfl rfl h_9) ?_; refine PL.op rfl (Rd.min2 rfl rfl) ?_; refine PL.aT rfl rfl ?_; refine PL.nn ?_; refine PC.seq ?_; obtain ⟨xs10, h_11, hh0⟩ := bind_some hh0; refine PC.rg ?_; refine PL.mT rfl rfl ?_; refine PL.ef rfl (Ef.makeM ByteArray.empty rfl rfl h_11 rfl rfl rfl (by exact ⟨.inl ⟨rfl, rfl⟩, trivial⟩)) ?_; refine PL.nm (.os 0 0 xs10.length) [some ⟨.tr (eL xs10), 9, 1⟩] rfl rfl ?_; refine PL.op rfl (Rd.asnO rfl) ?_; refine PL.nn ?_; refine PC.seq ?_; obtain ⟨n12, h_13, hh0⟩ := bind_some hh0; refine PC.rg ?_; refine PL.mT rfl rfl ?_; refine PL.op rfl (Rd.subM rfl rfl h_13) ?_; refine PL.aT rfl rfl ?_; refine PL.nn ?_; refine PC.seq ?_; refine PC.rg ?_; refine PL.aT rfl rfl ?_; refine PL.nn ?_; obtain ⟨o36, h_37, hh0⟩ := bind_some hh0; refine PC.cut hs (fun x : ByteArray × Int × (List ByteArray) => [(0, sA x.1), (9, .os 0 0 x.2.2.length), (10, iA x.2.1)]) (fun x => [⟨.tr (eL x.2.2), 9, 1⟩]) (fun x => m_strings_genSplit_k1 N x.1 x.2.1 x.2.2 = some r) ?_ ?_
  · refine PC.block ?_; refine PC.loop hs (fun x : Nat × (ByteArray × Int × (List ByteArray)) => [(0, sA x.2.1), (1, sA p_sep), (2, iA p_sepSave), (3, iA n12), (9, .os 0 0 x.2.2.2.length), (10, iA x.2.2.1)]) (fun x => [⟨.tr (eL x.2.2.2), 9, 1⟩]) (fun x => loopM (β := ByteArray × Int × (List ByteArray)) (fun s : ByteArray × Int × (List ByteArray) => m_strings_genSplit_b1 N p_sep p_sepSave n12 s.1 s.2.1 s.2.2) x.1 x.2 = some o36) (fun x => x.1) (N, (p_s, (0 : Int), xs10)) [some 0] ⟨rfl, rfl, ⟨⟨_, rfl, rfl, rfl, .tr _⟩, trivial⟩, ⟨.t _, .t _, .t _, .t _, .os rfl, .t _, trivial⟩⟩ h_37 ?_
    rintro ⟨f38_, s14, i15, v16⟩ h_40
    obtain ⟨f38, y39, rfl, hh1, kk1⟩ := loopM_some h_40
    replace hh1 : m_strings_genSplit_b1 N p_sep p_sepSave n12 s14 i15 v16 = some y39 := hh1
    unfold m_strings_genSplit_b1 at hh1; (iterate 2 refine PC.seq ?_); refine PC.rg ?_; (iterate 2 refine PL.mT rfl rfl ?_); refine PL.op rfl (Rd.lss rfl rfl) ?_; refine PL.nn ?_; rcases cond_some hh1 with ⟨h_47, hh1⟩ | ⟨h_47, hh1⟩; rotate_left
    · refine PC.cf rfl h_47 ?_; refine PC.exit ?_; (iterate 2 refine thA_e ?_); refine inA_eq rfl ?_; refine thA_n ?_; obtain rfl := some_in hh1; obtain rfl : ((s14, i15, v16) : ByteArray × Int × (List ByteArray)) = o36 := kk1; exact ⟨(s14, i15, v16), hh0, [some 0], ⟨rfl, rfl, ⟨⟨_, rfl, rfl, rfl, .tr _⟩, trivial⟩, ⟨.t _, .os rfl, .t _, trivial⟩⟩⟩
    refine PC.ct rfl h_47 ?_; refine PC.skip ?_; refine thA_n ?_; refine PC.block ?_; refine PC.seq ?_; obtain ⟨r48, h_49, hh1⟩ := bind_some hh1; refine PC.rg ?_; (iterate 2 refine PL.mT rfl rfl ?_); refine PL.callM false [] (w_strings_Index N s14 p_sep r48 h_49) rfl Tryz.call69 rfl ⟨.t _, .t _, trivial⟩ rfl trivial (fun h => by cases h) ?_; refine PL.aT rfl rfl ?_; refine PL.nn ?_; (iterate 2 refine PC.seq ?_); refine PC.rg ?_; refine PL.mT rfl rfl ?_; refine PL.op rfl (Rd.lss rfl rfl) ?_; refine PL.nn ?_; rcases cond_some hh1 with ⟨h_50, hh1⟩ | ⟨h_50, hh1⟩
    · refine PC.ct rfl h_50 ?_; refine PC.exit ?_; refine thA_e ?_; refine inA_ne rfl ?_; refine thA_e ?_; refine inA_eq rfl ?_; refine thA_n ?_; obtain rfl := some_in hh1; obtain rfl : ((s14, i15, v16) : ByteArray × Int × (List ByteArray)) = o36 := kk1; exact ⟨(s14, i15, v16), hh0, [some 0], ⟨rfl, rfl, ⟨⟨_, rfl, rfl, rfl, .tr _⟩, trivial⟩, ⟨.t _, .os rfl, .t _, trivial⟩⟩⟩
    refine PC.cf rfl h_50 ?_; refine PC.skip ?_; refine thA_n ?_; refine PC.seq ?_; obtain ⟨n51, h_52, hh1⟩ := bind_some hh1; obtain ⟨s53, h_54, hh1⟩ := bind_some hh1; obtain ⟨x55, h_56, hh1⟩ := bind_some hh1; refine PC.rg ?_; refine PL.op rfl (Rd.moveO rfl) ?_; (iterate 4 refine PL.mT rfl rfl ?_); refine PL.op rfl (Rd.addM rfl rfl h_52) ?_; refine PL.op rfl (Rd.subSMH rfl rfl h_54) ?_; refine PL.op rfl (Rd.ixOM rfl rfl rfl (ixI_lt h_56)) ?_; refine PL.stRM s53 rfl rfl rfl rfl rfl h_56 rfl ?_; refine PL.nO [some ⟨.tr (eL (v16.set i15.toNat s53)), 9, 1⟩] rfl ?_; refine PL.nn ?_; refine PC.seq ?_; obtain ⟨n57, h_58, hh1⟩ := bind_some hh1; obtain ⟨s59, h_60, hh1⟩ := bind_some hh1; refine PC.rg ?_; (iterate 3 refine PL.mT rfl rfl ?_); refine PL.op rfl (Rd.lenSt rfl) ?_; refine PL.op rfl (Rd.addM rfl rfl h_58) ?_; refine PL.op rfl (Rd.subSML rfl rfl h_60) ?_; refine PL.aT rfl rfl ?_; refine PL.nn ?_; obtain ⟨n61, h_62, hh1⟩ := bind_some hh1; refine PC.rg ?_; refine PL.mT rfl rfl ?_; refine PL.op rfl (Rd.addM rfl rfl h_62) ?_; refine PL.aT rfl rfl ?_; refine PL.nil ?_; refine inA_n ?_; obtain rfl := some_in hh1; refine thA_n ?_; exact ⟨(f38, (s59, n61, (v16.set i15.toNat s53))), Nat.lt_succ_self _, kk1, [some 0], ⟨rfl, rfl, ⟨⟨_, rfl, rfl, rfl, .tr _⟩, trivial⟩, ⟨.t _, .t _, .t _, .t _, .osE rfl (by simp only [List.length_set]), .t _, trivial⟩⟩⟩
  clear hh0
  rintro ⟨s33, i34, v35⟩ hh0
  replace hh0 : m_strings_genSplit_k1 N s33 i34 v35 = some r := hh0
  unfold m_strings_genSplit_k1 at hh0; refine PC.seq ?_; obtain ⟨x41, h_42, hh0⟩ := bind_some hh0; refine PC.rg ?_; refine PL.op rfl (Rd.moveO rfl) ?_; (iterate 2 refine PL.mT rfl rfl ?_); refine PL.op rfl (Rd.ixOM rfl rfl rfl (ixI_lt h_42)) ?_; refine PL.stRM s33 rfl rfl rfl rfl rfl h_42 rfl ?_; refine PL.nO [some ⟨.tr (eL (v35.set i34.toNat s33)), 9, 1⟩] rfl ?_; refine PL.nn ?_; refine PC.seq ?_; obtain ⟨n43, h_44, hh0⟩ := bind_some hh0; obtain ⟨xs45, h_46, hh0⟩ := bind_some hh0; refine PC.rg ?_; refine PL.op rfl (Rd.moveO rfl) ?_; refine PL.mT rfl rfl ?_; refine PL.op rfl (Rd.addM rfl rfl h_44) ?_; refine PL.cutM rfl rfl rfl (by simp only [List.length_set]) rfl h_46 ?_; refine PL.nm (.os 0 0 xs45.length) [some ⟨.tr (eL xs45), 9, 1⟩] rfl rfl ?_; refine PL.op rfl (Rd.asnO rfl) ?_; refine PL.nn ?_; refine PC.ret ?_; obtain rfl := some_in hh0; exact FinA.mk (r := .os 0 0 xs45.length) (bl := [⟨.tr (eL xs45), 9, 1⟩]) [some 0] (.inl rfl) rfl (rl := [.tmp 8]) (.tmp .nil) rfl rfl rfl (.os rfl) ⟨⟨_, rfl, rfl, rfl, .tr _⟩, trivial⟩ ⟨rfl, rfl⟩
def m_strings_Split (N : Nat) (p_s : ByteArray) (p_sep : ByteArray) : Option ((List ByteArray)) :=
  (m_strings_genSplit N p_s p_sep (0 : Int) (-1 : Int)).bind fun r1 =>
  some r1
theorem w_strings_Split (N : Nat) (p_s : ByteArray) (p_sep : ByteArray) (r : (List ByteArray)) (hh0 : m_strings_Split N p_s p_sep = some r) : FnX Tryz.prog 24 [] [sA p_s, sA p_sep] (RE (.os 0 0 r.length) [⟨.tr (eL r), 9, 1⟩]) := by
  unfold m_strings_Split at hh0; refine FnX.mk Tryz.func24 rfl rfl ?_; intro s hs; refine PC.seq ?_; refine PC.rg ?_; refine PL.aT rfl rfl ?_; refine PL.nn ?_; refine PC.seq ?_; obtain ⟨r1, h_2, hh0⟩ := bind_some hh0; refine PC.rg ?_; (iterate 2 refine PL.mT rfl rfl ?_); refine PL.callM false [] (w_strings_genSplit N p_s p_sep (0 : Int) (-1 : Int) r1 h_2) rfl Tryz.call45 rfl ⟨.t _, .t _, .t _, .t _, trivial⟩ rfl trivial (fun h => by cases h) ?_; refine PL.nm (.os 0 0 r1.length) [some ⟨.tr (eL r1), 9, 1⟩] rfl rfl ?_; refine PL.op rfl (Rd.asnO rfl) ?_; refine PL.nn ?_; refine PC.ret ?_; obtain rfl := some_in hh0; exact FinA.mk (r := .os 0 0 r1.length) (bl := [⟨.tr (eL r1), 9, 1⟩]) [some 0] (.inl rfl) rfl (rl := [.tmp 4]) (.tmp .nil) rfl rfl rfl (.os rfl) ⟨⟨_, rfl, rfl, rfl, .tr _⟩, trivial⟩ ⟨rfl, rfl⟩
def m_internal_stringslite_HasPrefix (N : Nat) (p_s : ByteArray) (p_prefix : ByteArray) : Option (Bool) :=
  cond (decide ((p_prefix.size : Int) ≤ (p_s.size : Int)))
    ((subS p_s (0 : Int) (p_prefix.size : Int)).bind fun s2 =>
    some (s2.toList == p_prefix.toList))
    (some false)
theorem w_internal_stringslite_HasPrefix (N : Nat) (p_s : ByteArray) (p_prefix : ByteArray) (r : Bool) (hh0 : m_internal_stringslite_HasPrefix N p_s p_prefix = some r) : FnX Tryz.prog 94 [] [sA p_s, sA p_prefix] (RE (bA r) []) := by
  unfold m_internal_stringslite_HasPrefix at hh0; refine FnX.mk Tryz.func94 rfl rfl ?_; intro s hs; refine PC.seq ?_; refine PC.rg ?_; refine PL.aT rfl rfl ?_; refine PL.nn ?_; refine PC.seq ?_; rcases cond_some hh0 with ⟨h_1, hh0⟩ | ⟨h_1, hh0⟩; rotate_left
  · refine PC.rg ?_; refine PL.mT rfl rfl ?_; refine PL.op rfl (Rd.lenSt rfl) ?_; refine PL.mT rfl rfl ?_; refine PL.op rfl (Rd.lenSt rfl) ?_; refine PL.op rfl (Rd.geq rfl rfl) ?_; refine PL.mT rfl rfl ?_; (iterate 6 refine PL.gf rfl rfl h_1 ?_); refine PL.op rfl (Rd.pick_f rfl h_1) ?_; refine PL.aT rfl rfl ?_; refine PL.nn ?_; refine PC.ret ?_; obtain rfl := some_in hh0; exact FinA.mk (r := bA false) (bl := []) [] (.inl rfl) rfl (rl := [.tmp 4]) (.tmp .nil) rfl rfl rfl (.t _) trivial ⟨rfl, rfl⟩
  obtain ⟨s2, h_3, hh0⟩ := bind_some hh0; refine PC.rg ?_; refine PL.mT rfl rfl ?_; refine PL.op rfl (Rd.lenSt rfl) ?_; refine PL.mT rfl rfl ?_; refine PL.op rfl (Rd.lenSt rfl) ?_; refine PL.op rfl (Rd.geq rfl rfl) ?_; refine PL.mT rfl rfl ?_; refine PL.gn rfl h_1 ?_; refine PL.mT rfl rfl ?_; refine PL.gn rfl h_1 ?_; refine PL.mT rfl rfl ?_; refine PL.gn rfl h_1 ?_; refine PL.op rfl (Rd.lenSt rfl) ?_; refine PL.gn rfl h_1 ?_; refine PL.op rfl (Rd.subSMH rfl rfl h_3) ?_; refine PL.gn rfl h_1 ?_; refine PL.mT rfl rfl ?_; refine PL.gn rfl h_1 ?_; refine PL.op rfl (Rd.eqlS rfl rfl) ?_; refine PL.op rfl (Rd.pick_t rfl h_1) ?_; refine PL.aT rfl rfl ?_; refine PL.nn ?_; refine PC.ret ?_; obtain rfl := some_in hh0; exact FinA.mk (r := bA (s2.toList == p_prefix.toList)) (bl := []) [] (.inl rfl) rfl (rl := [.tmp 4]) (.tmp .nil) rfl rfl rfl (.t _) trivial ⟨rfl, rfl⟩
def m_internal_stringslite_CutPrefix (N : Nat) (p_s : ByteArray) (p_prefix : ByteArray) : Option (ByteArray × Bool) :=
  (m_internal_stringslite_HasPrefix N p_s p_prefix).bind fun r1 =>
  cond r1
    ((subS p_s (p_prefix.size : Int) (p_s.size : Int)).bind fun s4 =>
    some (s4, true))
    (some (p_s, false))
theorem w_internal_stringslite_CutPrefix (N : Nat) (p_s : ByteArray) (p_prefix : ByteArray) (r : ByteArray × Bool) (hh0 : m_internal_stringslite_CutPrefix N p_s p_prefix = some r) : FnX Tryz.prog 71 [] [sA p_s, sA p_prefix] (RE (.tup [sA r.1, bA r.2]) []) := by
  unfold m_internal_stringslite_CutPrefix at hh0; refine FnX.mk Tryz.func71 rfl rfl ?_; intro s hs; refine PC.seq ?_; refine PC.rg ?_; (iterate 2 refine PL.aT rfl rfl ?_); refine PL.nn ?_; (iterate 2 refine PC.seq ?_); obtain ⟨r1, h_2, hh0⟩ := bind_some hh0; refine PC.rg ?_; (iterate 2 refine PL.mT rfl rfl ?_); refine PL.callM false [] (w_internal_stringslite_HasPrefix N p_s p_prefix r1 h_2) rfl Tryz.call94 rfl ⟨.t _, .t _, trivial⟩ rfl trivial (fun h => by cases h) ?_; refine PL.op rfl (Rd.unnot rfl) ?_; refine PL.nn ?_; rcases cond_some hh0 with ⟨h_3, hh0⟩ | ⟨h_3, hh0⟩; rotate_left
  · refine PC.ct rfl (not_f h_3) ?_; refine PC.seq ?_; refine PC.rg ?_; refine PL.mT rfl rfl ?_; (iterate 2 refine PL.aT rfl rfl ?_); refine PL.nn ?_; refine PC.ret ?_; refine thA_r ?_; obtain rfl := some_in hh0; exact FinA.mk (r := .tup [sA ((p_s, false).1), bA ((p_s, false).2)]) (bl := []) [] (.inl rfl) rfl (rl := [.tmp 4, .tmp 5]) (.tmp (.tmp .nil)) rfl rfl rfl (.tupL ⟨.t _, .t _, trivial⟩) trivial ⟨rfl, rfl⟩
  refine PC.cf rfl (not_t h_3) ?_; refine PC.skip ?_; refine thA_n ?_; refine PC.seq ?_; obtain ⟨s4, h_5, hh0⟩ := bind_some hh0; refine PC.rg ?_; (iterate 2 refine PL.mT rfl rfl ?_); refine PL.op rfl (Rd.lenSt rfl) ?_; refine PL.op rfl (Rd.subSML rfl rfl h_5) ?_; (iterate 2 refine PL.aT rfl rfl ?_); refine PL.nn ?_; refine PC.ret ?_; obtain rfl := some_in hh0; exact FinA.mk (r := .tup [sA ((s4, true).1), bA ((s4, true).2)]) (bl := []) [] (.inl rfl) rfl (rl := [.tmp 4, .tmp 5]) (.tmp (.tmp .nil)) rfl rfl rfl (.tupL ⟨.t _, .t _, trivial⟩) trivial ⟨rfl, rfl⟩
def m_strings_CutPrefix (N : Nat) (p_s : ByteArray) (p_prefix : ByteArray) : Option (ByteArray × Bool) :=
  (m_internal_stringslite_CutPrefix N p_s p_prefix).bind fun r1 =>
  some (r1.1, r1.2)
theorem w_strings_CutPrefix (N : Nat) (p_s : ByteArray) (p_prefix : ByteArray) (r : ByteArray × Bool) (hh0 : m_strings_CutPrefix N p_s p_prefix = some r) : FnX Tryz.prog 47 [] [sA p_s, sA p_prefix] (RE (.tup [sA r.1, bA r.2]) []) := by
  unfold m_strings_CutPrefix at hh0; refine FnX.mk Tryz.func47 rfl rfl ?_; intro s hs; refine PC.seq ?_; refine PC.rg ?_; (iterate 2 refine PL.aT rfl rfl ?_); refine PL.nn ?_; refine PC.seq ?_; obtain ⟨r1, h_2, hh0⟩ := bind_some hh0; refine PC.rg ?_; (iterate 2 refine PL.mT rfl rfl ?_); refine PL.callM false [] (w_internal_stringslite_CutPrefix N p_s p_prefix r1 h_2) rfl Tryz.call71 rfl ⟨.t _, .t _, trivial⟩ rfl trivial (fun h => by cases h) ?_; (iterate 2 refine PL.op rfl (Rd.extract rfl rfl) ?_); (iterate 2 refine PL.aT rfl rfl ?_); refine PL.nn ?_; refine PC.ret ?_; obtain rfl := some_in hh0; exact FinA.mk (r := .tup [sA ((r1.1, r1.2).1), bA ((r1.1, r1.2).2)]) (bl := []) [] (.inl rfl) rfl (rl := [.tmp 4, .tmp 5]) (.tmp (.tmp .nil)) rfl rfl rfl (.tupL ⟨.t _, .t _, trivial⟩) trivial ⟨rfl, rfl⟩
end V
end Go.Proofs.YtemmcidmcojjjaaGreatDoor
namespace Go.Proofs.YtemmcidmcojjjaaGreatDoor
namespace V
section
variable {P : Program} {s : Bs} {σ : Fr} {O : Obs} {x y : Operand} {t t' ty : TypeId} {m n : Int}
theorem Rd.eqlU (hx : evA σ x = .t (.v (.int .u8 m))) (hy : evA σ y = .t (.v (.int .u8 n))) : Rd P s O σ (.binOp .eql t x y t') ty (bA (decide (m = n))) :=
  Rd.of2 hx hy rfl fun _ _ h1 h2 => Yl.mk fun d pos after g => by
    simp [execOp, h1, h2, eqGuard, binOp, Op.intCmp]; rfl
end
theorem bool_tf (b : Bool) : b = true ∨ b = false := by cases b <;> simp
theorem and_t {a b : Bool} (h : a = true) : (a && b) = b := by rw [h]; rfl
theorem and_f {a b : Bool} (h : a = false) : (a && b) = false := by rw [h]; rfl
theorem Sb.tB {z : Bool} {O : Obs} {ρ : Rho} {a b : Bool} (h : a = b) : Sb z O ρ (bA a) (bA b) := h ▸ .t _
end V
end Go.Proofs.YtemmcidmcojjjaaGreatDoor
namespace Go.Proofs.YtemmcidmcojjjaaGreatDoor
namespace V
open Enc (enc)
set_option maxHeartbeats 4000000
set_option maxRecDepth 100000
open Go.RowKit
attribute [local irreducible] thA inA FinA eL
structure I_session where
  table : I_Table
  has : Bool
deriving DecidableEq
def m_I_parseKind (N : Nat) (p_w : ByteArray) : Option (Int) :=
  cond (p_w.toList == (ByteArray.mk #[110, 117, 109]).toList)
    (some (1 : Int))
    (cond (p_w.toList == (ByteArray.mk #[116, 101, 120, 116]).toList)
      (some (2 : Int))
      (some (0 : Int)))
theorem w_I_parseKind (N : Nat) (p_w : ByteArray) (r : Int) (hh0 : m_I_parseKind N p_w = some r) : FnX Tryz.prog 27 [] [sA p_w] (RE (iA r) []) := by
  unfold m_I_parseKind at hh0; refine FnX.mk Tryz.func27 rfl rfl ?_; intro s hs; refine PC.seq ?_; refine PC.rg ?_; refine PL.aT rfl rfl ?_; refine PL.nn ?_; (iterate 2 refine PC.seq ?_); refine PC.rg ?_; refine PL.mT rfl rfl ?_; refine PL.nn ?_; refine PC.block ?_; refine PC.seq ?_; refine PC.rg ?_; refine PL.op rfl (Rd.eqlS rfl rfl) ?_; refine PL.aT rfl rfl ?_; refine PL.nn ?_; rcases cond_some hh0 with ⟨h_1, hh0⟩ | ⟨h_1, hh0⟩
  · refine PC.ct rfl h_1 ?_; refine PC.seq ?_; refine PC.rg ?_; refine PL.aT rfl rfl ?_; refine PL.nn ?_; refine PC.ret ?_; refine inA_r ?_; refine thA_r ?_; obtain rfl := some_in hh0; exact FinA.mk (r := iA (1 : Int)) (bl := []) [] (.inl rfl) rfl (rl := [.tmp 2]) (.tmp .nil) rfl rfl rfl (.t _) trivial ⟨rfl, rfl⟩
  refine PC.cf rfl h_1 ?_; refine PC.seq ?_; refine PC.rg ?_; refine PL.op rfl (Rd.eqlS rfl rfl) ?_; refine PL.aT rfl rfl ?_; refine PL.nn ?_; rcases cond_some hh0 with ⟨h_2, hh0⟩ | ⟨h_2, hh0⟩
  · refine PC.ct rfl h_2 ?_; refine PC.seq ?_; refine PC.rg ?_; refine PL.aT rfl rfl ?_; refine PL.nn ?_; refine PC.ret ?_; refine inA_r ?_; refine thA_r ?_; obtain rfl := some_in hh0; exact FinA.mk (r := iA (2 : Int)) (bl := []) [] (.inl rfl) rfl (rl := [.tmp 2]) (.tmp .nil) rfl rfl rfl (.t _) trivial ⟨rfl, rfl⟩
  refine PC.cf rfl h_2 ?_; refine PC.skip ?_; refine inA_n ?_; refine thA_n ?_; refine PC.seq ?_; refine PC.rg ?_; refine PL.aT rfl rfl ?_; refine PL.nn ?_; refine PC.ret ?_; obtain rfl := some_in hh0; exact FinA.mk (r := iA (0 : Int)) (bl := []) [] (.inl rfl) rfl (rl := [.tmp 2]) (.tmp .nil) rfl rfl rfl (.t _) trivial ⟨rfl, rfl⟩
def m_I_session_create_k1 (N : Nat) (p_s : I_session) (v12 : (List I_Column)) : Option (Bool × I_session) :=
  (m_I_ValidFormat N v12).bind fun r18 =>
  cond r18
    (some (true, (I_session.mk (I_Table.mk v12 ([] : List I_Change) ([] : List I_Tagged)) true)))
    (some (false, p_s))
def m_I_session_create_b1 (N : Nat) (p_kinds : (List ByteArray)) (i1 : Int) (v2 : (List I_Column)) : Option ((Int × (List I_Column)) ⊕ (List I_Column)) :=
  cond (decide (i1 < (p_kinds.length : Int)))
    ((ixI p_kinds i1).bind fun x22 =>
    (m_I_parseKind N x22).bind fun r24 =>
    (appM 40 v2 [(I_Column.mk r24 (I_Value.mk (0 : Int) (0 : Int) ByteArray.empty))]).bind fun xs26 =>
    (chk (i1 + (1 : Int))).bind fun n28 =>
    some (.inl (n28, xs26)))
    (some (.inr v2))
def m_I_session_create (N : Nat) (p_s : I_session) (p_kinds : (List ByteArray)) : Option (Bool × I_session) :=
  (loopM (β := (List I_Column)) (fun s : Int × (List I_Column) => m_I_session_create_b1 N p_kinds s.1 s.2) N ((0 : Int), ([] : List I_Column))).bind fun e =>
  m_I_session_create_k1 N p_s e
theorem w_I_session_create (N : Nat) (p_s : I_session) (p_kinds : (List ByteArray)) (r : Bool × I_session) (hh0 : m_I_session_create N p_s p_kinds = some r) : FnX Tryz.prog 26 [⟨.mx [sL p_s.table.first, sL p_s.table.changes, sL p_s.table.rows, bA p_s.has], 43, 0⟩] [.op 0 0, sL p_kinds] (RE (bA r.1) [⟨.mx [sL r.2.table.first, sL r.2.table.changes, sL r.2.table.rows, bA r.2.has], 43, 0⟩]) := by
  unfold m_I_session_create at hh0; refine FnX.mk Tryz.func26 rfl rfl ?_; intro s hs; refine PC.seq ?_; refine PC.rg ?_; refine PL.aT rfl rfl ?_; refine PL.nn ?_; refine PC.seq ?_; refine PC.rg ?_; refine PL.aT rfl rfl ?_; refine PL.nn ?_; (iterate 2 refine PC.seq ?_); refine PC.rg ?_; refine PL.mT rfl rfl ?_; refine PL.op rfl (Rd.lenT rfl) ?_; refine PL.mT rfl rfl ?_; refine PL.nn ?_; obtain ⟨o13, h_14, hh0⟩ := bind_some hh0; refine PC.cutE hs (fun x : (List I_Column) => [(0, .op 0 0), (5, .os 1 0 x.length)]) (fun x => [⟨.mx [sL p_s.table.first, sL p_s.table.changes, sL p_s.table.rows, bA p_s.has], 43, 0⟩, ⟨.tr (eL x), 67, 4⟩]) (fun x => m_I_session_create_k1 N p_s x = some r) ?_ ?_
  · refine PC.block ?_; refine PC.loop hs (fun x : Nat × (Int × (List I_Column)) => [(0, .op 0 0), (5, .os 1 0 x.2.2.length), (8, sL p_kinds), (9, iA (p_kinds.length : Int)), (10, iA x.2.1)]) (fun x => [⟨.mx [sL p_s.table.first, sL p_s.table.changes, sL p_s.table.rows, bA p_s.has], 43, 0⟩, ⟨.tr (eL x.2.2), 67, 4⟩]) (fun x => loopM (β := (List I_Column)) (fun s : Int × (List I_Column) => m_I_session_create_b1 N p_kinds s.1 s.2) x.1 x.2 = some o13) (fun x => x.1) (N, ((0 : Int), ([] : List I_Column))) [some 0, none] ⟨rfl, rfl, ⟨⟨_, rfl, rfl, rfl, .mx ⟨.t _, .t _, .t _, .t _, trivial⟩⟩, ow_nil _, trivial⟩, ⟨.op rfl, .osn rfl, .t _, .t _, .t _, trivial⟩⟩ h_14 ?_
    rintro ⟨f15_, i1, v2⟩ h_17
    obtain ⟨f15, y16, rfl, hh1, kk1⟩ := loopM_some h_17
    replace hh1 : m_I_session_create_b1 N p_kinds i1 v2 = some y16 := hh1
    unfold m_I_session_create_b1 at hh1; refine PC.seq ?_; refine PC.rg ?_; refine PL.op rfl (Rd.lss rfl rfl) ?_; refine PL.nn ?_; refine PC.seq ?_; rcases cond_some hh1 with ⟨h_21, hh1⟩ | ⟨h_21, hh1⟩; rotate_left
    · refine PC.cf rfl h_21 ?_; refine PC.exit ?_; (iterate 2 refine thA_e ?_); refine inA_eq rfl ?_; refine thA_n ?_; obtain rfl := some_in hh1; obtain rfl : (v2 : (List I_Column)) = o13 := kk1; exact ⟨v2, hh0, [some 0, some 1], ⟨rfl, rfl, ⟨⟨_, rfl, rfl, rfl, .mx ⟨.t _, .t _, .t _, .t _, trivial⟩⟩, ⟨_, rfl, rfl, rfl, .tr _⟩, trivial⟩, ⟨.op rfl, .os rfl, trivial⟩⟩⟩
    refine PC.ct rfl h_21 ?_; refine PC.skip ?_; refine thA_n ?_; refine PC.seq ?_; refine PC.block ?_; refine PC.seq ?_; obtain ⟨x22, h_23, hh1⟩ := bind_some hh1; refine PC.rg ?_; refine PL.op rfl (Rd.ixM rfl rfl h_23) ?_; refine PL.op rfl (Rd.elM1 rfl h_23 rfl rfl) ?_; refine PL.aT rfl rfl ?_; refine PL.nn ?_; obtain ⟨r24, h_25, hh1⟩ := bind_some hh1; obtain ⟨xs26, h_27, hh1⟩ := bind_some hh1; refine PC.rg ?_; refine PL.op rfl (Rd.moveO rfl) ?_; refine PL.mT rfl rfl ?_; refine PL.callM false [] (w_I_parseKind N x22 r24 h_25) rfl Tryz.call27 rfl ⟨.t _, trivial⟩ rfl trivial (fun h => by cases h) ?_; refine PL.op rfl (Rd.build rfl rfl rfl rfl) ?_; refine PL.ef rfl (Ef.litM (α := I_Column) [(I_Column.mk r24 (I_Value.mk (0 : Int) (0 : Int) ByteArray.empty))] [_] rfl rfl (by decide) rfl rfl rfl rfl) ?_; refine PL.nm (.os 2 0 1) [some ⟨.mx [sL p_s.table.first, sL p_s.table.changes, sL p_s.table.rows, bA p_s.has], 43, 0⟩, some ⟨.tr (eL v2), 67, 4⟩, some ⟨.tr (eL [(I_Column.mk r24 (I_Value.mk (0 : Int) (0 : Int) ByteArray.empty))]), 67, 4⟩] rfl rfl ?_; refine PL.apM hs rfl rfl rfl rfl (SrcA.ownE rfl rfl rfl) rfl rfl rfl rfl h_27 ?_; refine PL.nm (.os 3 0 xs26.length) [some ⟨.mx [sL p_s.table.first, sL p_s.table.changes, sL p_s.table.rows, bA p_s.has], 43, 0⟩, none, some ⟨.tr (eL [(I_Column.mk r24 (I_Value.mk (0 : Int) (0 : Int) ByteArray.empty))]), 67, 4⟩, some ⟨.tr (eL xs26), 67, 4⟩] rfl rfl ?_; refine PL.op rfl (Rd.asnO rfl) ?_; refine PL.nil ?_; refine inA_n ?_; refine thA_n ?_; obtain ⟨n28, h_29, hh1⟩ := bind_some hh1; refine PC.rg ?_; refine PL.op rfl (Rd.addM rfl rfl h_29) ?_; refine PL.mT rfl rfl ?_; refine PL.nil ?_; obtain rfl := some_in hh1; refine thA_n ?_; exact ⟨(f15, (n28, xs26)), Nat.lt_succ_self _, kk1, [some 0, some 3], ⟨rfl, rfl, ⟨⟨_, rfl, rfl, rfl, .mx ⟨.t _, .t _, .t _, .t _, trivial⟩⟩, ⟨_, rfl, rfl, rfl, .tr _⟩, trivial⟩, ⟨.op rfl, .os rfl, .t _, .t _, .t _, trivial⟩⟩⟩
  clear hh0
  rintro v12 hh0
  replace hh0 : m_I_session_create_k1 N p_s v12 = some r := hh0
  unfold m_I_session_create_k1 at hh0; refine thA_n ?_; (iterate 2 refine PC.seq ?_); obtain ⟨r18, h_19, hh0⟩ := bind_some hh0; refine PC.rg ?_; refine PL.op rfl (Rd.moveO rfl) ?_; refine PL.callM true [] (w_I_ValidFormat N v12 r18 h_19) rfl Tryz.call46 rfl ⟨.own rfl (by first | decide | exact List.not_mem_nil) rfl rfl, trivial⟩ rfl trivial (fun _ => ⟨trivial, flat_nil⟩) ?_; refine PL.op rfl (Rd.unnot rfl) ?_; refine PL.nn ?_; rcases cond_some hh0 with ⟨h_20, hh0⟩ | ⟨h_20, hh0⟩; rotate_left
  · refine PC.ct rfl (not_f h_20) ?_; refine PC.seq ?_; refine PC.rg ?_; refine PL.aT rfl rfl ?_; refine PL.nn ?_; refine PC.ret ?_; refine thA_r ?_; obtain rfl := some_in hh0; exact FinA.mk (r := bA ((false, p_s).1)) (bl := [⟨.mx [sL ((false, p_s).2.table.first), sL ((false, p_s).2.table.changes), sL ((false, p_s).2.table.rows), bA ((false, p_s).2.has)], 43, 0⟩]) [some 0] (.inl rfl) rfl (rl := [.tmp 4]) (.tmp .nil) rfl rfl rfl (.t _) ⟨⟨_, rfl, rfl, rfl, .mx ⟨.t _, .t _, .t _, .t _, trivial⟩⟩, trivial⟩ ⟨rfl, rfl⟩
  refine PC.cf rfl (not_t h_20) ?_; refine PC.skip ?_; refine thA_n ?_; refine PC.seq ?_; refine PC.rg ?_; (iterate 2 refine PL.op rfl (Rd.moveP rfl) ?_); refine PL.op rfl (Rd.moveO rfl) ?_; refine PL.op rfl (Rd.build rfl rfl rfl rfl) ?_; refine PL.op rfl (Rd.nilCheckO rfl rfl) ?_; refine PL.op rfl (Rd.fieldO rfl rfl) ?_; refine PL.store rfl rfl rfl rfl rfl rfl rfl ?_; refine PL.nO [some ⟨.mx [.os 1 0 v12.length, .t (.v (.slice none 0 0)), .t (.v (.slice none 0 0)), bA p_s.has], 43, 0⟩, some ⟨.tr (eL v12), 67, 4⟩] rfl ?_; refine PL.op rfl (Rd.nilCheckO rfl rfl) ?_; refine PL.op rfl (Rd.fieldO rfl rfl) ?_; refine PL.store rfl rfl rfl rfl rfl rfl rfl ?_; refine PL.nO [some ⟨.mx [.os 1 0 v12.length, .t (.v (.slice none 0 0)), .t (.v (.slice none 0 0)), bA true], 43, 0⟩, some ⟨.tr (eL v12), 67, 4⟩] rfl ?_; refine PL.nn ?_; refine PC.seq ?_; refine PC.rg ?_; refine PL.aT rfl rfl ?_; refine PL.nn ?_; refine PC.ret ?_; obtain rfl := some_in hh0; exact FinA.mk (r := bA ((true, (I_session.mk (I_Table.mk v12 ([] : List I_Change) ([] : List I_Tagged)) true)).1)) (bl := [⟨.mx [sL ((true, (I_session.mk (I_Table.mk v12 ([] : List I_Change) ([] : List I_Tagged)) true)).2.table.first), sL ((true, (I_session.mk (I_Table.mk v12 ([] : List I_Change) ([] : List I_Tagged)) true)).2.table.changes), sL ((true, (I_session.mk (I_Table.mk v12 ([] : List I_Change) ([] : List I_Tagged)) true)).2.table.rows), bA ((true, (I_session.mk (I_Table.mk v12 ([] : List I_Change) ([] : List I_Tagged)) true)).2.has)], 43, 0⟩]) [some 0] (.inl rfl) rfl (rl := [.tmp 4]) (.tmp .nil) rfl rfl rfl (.t _) ⟨⟨_, rfl, rfl, rfl, .mx ⟨.own rfl (by first | decide | exact List.not_mem_nil) rfl rfl, Sb.nilE, Sb.nilE, .t _, trivial⟩⟩, trivial⟩ ⟨rfl, rfl⟩
def m_I_answer (N : Nat) (p_ok : Bool) : Option (ByteArray) :=
  cond p_ok
    (some (ByteArray.mk #[111, 107]))
    (some (ByteArray.mk #[110, 111]))
theorem w_I_answer (N : Nat) (p_ok : Bool) (r : ByteArray) (hh0 : m_I_answer N p_ok = some r) : FnX Tryz.prog 25 [] [bA p_ok] (RE (sA r) []) := by
  unfold m_I_answer at hh0; refine FnX.mk Tryz.func25 rfl rfl ?_; intro s hs; refine PC.seq ?_; refine PC.rg ?_; refine PL.aT rfl rfl ?_; refine PL.nn ?_; (iterate 2 refine PC.seq ?_); refine PC.rg ?_; refine PL.mT rfl rfl ?_; refine PL.nn ?_; rcases cond_some hh0 with ⟨h_1, hh0⟩ | ⟨h_1, hh0⟩
  · refine PC.ct rfl h_1 ?_; refine PC.seq ?_; refine PC.rg ?_; refine PL.aT rfl rfl ?_; refine PL.nn ?_; refine PC.ret ?_; refine thA_r ?_; obtain rfl := some_in hh0; exact FinA.mk (r := sA (ByteArray.mk #[111, 107])) (bl := []) [] (.inl rfl) rfl (rl := [.tmp 2]) (.tmp .nil) rfl rfl rfl (.t _) trivial ⟨rfl, rfl⟩
  refine PC.cf rfl h_1 ?_; refine PC.skip ?_; refine thA_n ?_; refine PC.seq ?_; refine PC.rg ?_; refine PL.aT rfl rfl ?_; refine PL.nn ?_; refine PC.ret ?_; obtain rfl := some_in hh0; exact FinA.mk (r := sA (ByteArray.mk #[110, 111])) (bl := []) [] (.inl rfl) rfl (rl := [.tmp 2]) (.tmp .nil) rfl rfl rfl (.t _) trivial ⟨rfl, rfl⟩
def m_I_parseNumber_k1 (N : Nat) (i24 : Int) : Option (Int × Bool) :=
  some (i24, true)
def m_I_parseNumber_b1 (N : Nat) (p_w : ByteArray) (i7 : Int) (i8 : Int) : Option ((Int × Int) ⊕ (Int ⊕ (Int × Bool))) :=
  cond (decide (i8 < (p_w.size : Int)))
    ((ixS p_w i8).bind fun c31 =>
    cond (decide ((c31.toNat : Int) < ((48 : UInt8).toNat : Int)))
      (some (.inr (.inr ((0 : Int), false))))
      ((ixS p_w i8).bind fun c34 =>
      cond (decide (((57 : UInt8).toNat : Int) < (c34.toNat : Int)))
        (some (.inr (.inr ((0 : Int), false))))
        ((chk (i7 * (10 : Int))).bind fun n37 =>
        (ixS p_w i8).bind fun c39 =>
        (chk (n37 + ((i2b ((c39.toNat : Int) - ((48 : UInt8).toNat : Int))).toNat : Int))).bind fun n41 =>
        (chk (i8 + (1 : Int))).bind fun n43 =>
        some (.inl (n41, n43)))))
    (some (.inr (.inl i7)))
def m_I_parseNumber_k2 (N : Nat) (i62 : Int) : Option (Int × Bool) :=
  some (i62, true)
def m_I_parseNumber_b2 (N : Nat) (p_w : ByteArray) (i45 : Int) (i46 : Int) : Option ((Int × Int) ⊕ (Int ⊕ (Int × Bool))) :=
  cond (decide (i46 < (p_w.size : Int)))
    ((ixS p_w i46).bind fun c69 =>
    cond (decide ((c69.toNat : Int) < ((48 : UInt8).toNat : Int)))
      (some (.inr (.inr ((0 : Int), false))))
      ((ixS p_w i46).bind fun c72 =>
      cond (decide (((57 : UInt8).toNat : Int) < (c72.toNat : Int)))
        (some (.inr (.inr ((0 : Int), false))))
        ((chk (i45 * (10 : Int))).bind fun n75 =>
        (ixS p_w i46).bind fun c77 =>
        (chk (n75 + ((i2b ((c77.toNat : Int) - ((48 : UInt8).toNat : Int))).toNat : Int))).bind fun n79 =>
        (chk (i46 + (1 : Int))).bind fun n81 =>
        some (.inl (n79, n81)))))
    (some (.inr (.inl i45)))
def m_I_parseNumber (N : Nat) (p_w : ByteArray) : Option (Int × Bool) :=
  cond (p_w.toList == ByteArray.empty.toList)
    (some ((0 : Int), false))
    (cond (decide ((6 : Int) < (p_w.size : Int)))
      (some ((0 : Int), false))
      ((ixS p_w (0 : Int)).bind fun c3 =>
      cond (decide ((c3.toNat : Int) = ((48 : UInt8).toNat : Int)))
        (cond (p_w.toList == (ByteArray.mk #[48]).toList)
          ((loopM (β := Int ⊕ (Int × Bool)) (fun s : Int × Int => m_I_parseNumber_b1 N p_w s.1 s.2) N ((0 : Int), (0 : Int))).bind fun o => match o with
          | .inl e =>
            m_I_parseNumber_k1 N e
          | .inr v =>
            some v)
          (some ((0 : Int), false)))
        ((loopM (β := Int ⊕ (Int × Bool)) (fun s : Int × Int => m_I_parseNumber_b2 N p_w s.1 s.2) N ((0 : Int), (0 : Int))).bind fun o => match o with
        | .inl e =>
          m_I_parseNumber_k2 N e
        | .inr v =>
          some v)))
theorem w_I_parseNumber (N : Nat) (p_w : ByteArray) (r : Int × Bool) (hh0 : m_I_parseNumber N p_w = some r) : FnX Tryz.prog 48 [] [sA p_w] (RE (.tup [iA r.1, bA r.2]) []) := by
  unfold m_I_parseNumber at hh0; refine FnX.mk Tryz.func48 rfl rfl ?_; intro s hs; refine PC.seq ?_; refine PC.rg ?_; (iterate 2 refine PL.aT rfl rfl ?_); refine PL.nn ?_; (iterate 2 refine PC.seq ?_); rcases cond_some hh0 with ⟨h_1, hh0⟩ | ⟨h_1, hh0⟩
  · refine PC.rg ?_; refine PL.mT rfl rfl ?_; refine PL.op rfl (Rd.eqlS rfl rfl) ?_; refine PL.mT rfl rfl ?_; (iterate 3 refine PL.gf rfl rfl h_1 ?_); refine PL.op rfl (Rd.pick_t rfl h_1) ?_; refine PL.mT rfl rfl ?_; (iterate 4 refine PL.gf rfl rfl rfl ?_); (iterate 2 refine PL.guard_un rfl rfl ?_); refine PL.gf rfl rfl rfl ?_; refine PL.op rfl (Rd.pick_t rfl rfl) ?_; refine PL.nn ?_; refine PC.ct rfl rfl ?_; refine PC.seq ?_; refine PC.rg ?_; (iterate 2 refine PL.aT rfl rfl ?_); refine PL.nn ?_; refine PC.ret ?_; refine thA_r ?_; obtain rfl := some_in hh0; exact FinA.mk (r := .tup [iA (((0 : Int), false).1), bA (((0 : Int), false).2)]) (bl := []) [] (.inl rfl) rfl (rl := [.tmp 2, .tmp 3]) (.tmp (.tmp .nil)) rfl rfl rfl (.tupL ⟨.t _, .t _, trivial⟩) trivial ⟨rfl, rfl⟩
  rcases cond_some hh0 with ⟨h_2, hh0⟩ | ⟨h_2, hh0⟩
  · refine PC.rg ?_; refine PL.mT rfl rfl ?_; refine PL.op rfl (Rd.eqlS rfl rfl) ?_; refine PL.mT rfl rfl ?_; refine PL.gn rfl h_1 ?_; refine PL.mT rfl rfl ?_; refine PL.gn rfl h_1 ?_; refine PL.op rfl (Rd.lenSt rfl) ?_; refine PL.gn rfl h_1 ?_; refine PL.op rfl (Rd.gtr rfl rfl) ?_; refine PL.op rfl (Rd.pick_f rfl h_1) ?_; refine PL.mT rfl rfl ?_; (iterate 4 refine PL.gf rfl rfl h_2 ?_); (iterate 2 refine PL.guard_un rfl rfl ?_); refine PL.gf rfl rfl h_2 ?_; refine PL.op rfl (Rd.pick_t rfl h_2) ?_; refine PL.nn ?_; refine PC.ct rfl rfl ?_; refine PC.seq ?_; refine PC.rg ?_; (iterate 2 refine PL.aT rfl rfl ?_); refine PL.nn ?_; refine PC.ret ?_; refine thA_r ?_; obtain rfl := some_in hh0; exact FinA.mk (r := .tup [iA (((0 : Int), false).1), bA (((0 : Int), false).2)]) (bl := []) [] (.inl rfl) rfl (rl := [.tmp 2, .tmp 3]) (.tmp (.tmp .nil)) rfl rfl rfl (.tupL ⟨.t _, .t _, trivial⟩) trivial ⟨rfl, rfl⟩
  obtain ⟨c3, h_4, hh0⟩ := bind_some hh0; rcases cond_some hh0 with ⟨h_5, hh0⟩ | ⟨h_5, hh0⟩; rotate_left
  · refine PC.rg ?_; refine PL.mT rfl rfl ?_; refine PL.op rfl (Rd.eqlS rfl rfl) ?_; refine PL.mT rfl rfl ?_; refine PL.gn rfl h_1 ?_; refine PL.mT rfl rfl ?_; refine PL.gn rfl h_1 ?_; refine PL.op rfl (Rd.lenSt rfl) ?_; refine PL.gn rfl h_1 ?_; refine PL.op rfl (Rd.gtr rfl rfl) ?_; refine PL.op rfl (Rd.pick_f rfl h_1) ?_; refine PL.mT rfl rfl ?_; refine PL.gn rfl h_2 ?_; refine PL.mT rfl rfl ?_; refine PL.gn rfl h_2 ?_; refine PL.op rfl (Rd.ixSM rfl rfl h_4) ?_; refine PL.gn rfl h_2 ?_; refine PL.op rfl (Rd.eqlU rfl rfl) ?_; refine PL.gn rfl h_2 ?_; refine PL.mT rfl rfl ?_; (iterate 2 refine PL.gf rfl rfl h_5 ?_); refine PL.gn rfl h_2 ?_; refine PL.op rfl (Rd.pick_f rfl h_5) ?_; refine PL.op rfl (Rd.pick_f rfl h_2) ?_; refine PL.nn ?_; refine PC.cf rfl rfl ?_; refine PC.skip ?_; refine thA_n ?_; refine PC.seq ?_; refine PC.rg ?_; refine PL.aT rfl rfl ?_; refine PL.nn ?_; (iterate 2 refine PC.seq ?_); refine PC.rg ?_; refine PL.aT rfl rfl ?_; refine PL.nn ?_; obtain ⟨o63, h_64, hh0⟩ := bind_some hh0; refine PC.cutE hs (fun x : Int => [(4, iA x)]) (fun x => []) (fun x => m_I_parseNumber_k2 N x = some r) ?_ ?_
    · refine PC.block ?_; refine PC.loop hs (fun x : Nat × (Int × Int) => [(0, sA p_w), (4, iA x.2.1), (5, iA x.2.2)]) (fun x => []) (fun x => loopM (β := Int ⊕ (Int × Bool)) (fun s : Int × Int => m_I_parseNumber_b2 N p_w s.1 s.2) x.1 x.2 = some o63) (fun x => x.1) (N, ((0 : Int), (0 : Int))) [] ⟨rfl, rfl, trivial, ⟨.t _, .t _, .t _, trivial⟩⟩ h_64 ?_
      rintro ⟨f65_, i45, i46⟩ h_67
      obtain ⟨f65, y66, rfl, hh1, kk1⟩ := loopM_some h_67
      replace hh1 : m_I_parseNumber_b2 N p_w i45 i46 = some y66 := hh1
      unfold m_I_parseNumber_b2 at hh1; (iterate 2 refine PC.seq ?_); refine PC.rg ?_; (iterate 2 refine PL.mT rfl rfl ?_); refine PL.op rfl (Rd.lenSt rfl) ?_; refine PL.op rfl (Rd.lss rfl rfl) ?_; refine PL.nn ?_; rcases cond_some hh1 with ⟨h_68, hh1⟩ | ⟨h_68, hh1⟩; rotate_left
      · refine PC.cf rfl h_68 ?_; refine PC.exit ?_; (iterate 2 refine thA_e ?_); refine inA_eq rfl ?_; refine thA_n ?_; obtain rfl := some_in hh1; obtain rfl : (.inl i45 : Int ⊕ (Int × Bool)) = o63 := kk1; exact ⟨i45, hh0, [], ⟨rfl, rfl, trivial, ⟨.t _, trivial⟩⟩⟩
      refine PC.ct rfl h_68 ?_; refine PC.skip ?_; refine thA_n ?_; refine PC.seq ?_; refine PC.block ?_; (iterate 2 refine PC.seq ?_); obtain ⟨c69, h_70, hh1⟩ := bind_some hh1; rcases cond_some hh1 with ⟨h_71, hh1⟩ | ⟨h_71, hh1⟩
      · refine PC.rg ?_; (iterate 2 refine PL.mT rfl rfl ?_); refine PL.op rfl (Rd.ixSM rfl rfl h_70) ?_; refine PL.op rfl (Rd.lssU rfl rfl) ?_; refine PL.mT rfl rfl ?_; (iterate 4 refine PL.gf rfl rfl h_71 ?_); refine PL.op rfl (Rd.pick_t rfl h_71) ?_; refine PL.nn ?_; refine PC.ct rfl rfl ?_; refine PC.seq ?_; refine PC.rg ?_; (iterate 2 refine PL.aT rfl rfl ?_); refine PL.nn ?_; refine PC.ret ?_; refine thA_r ?_; refine inA_r ?_; (iterate 2 refine thA_r ?_); refine inA_r ?_; refine thA_r ?_; obtain rfl := some_in hh1; obtain rfl : (.inr ((0 : Int), false) : Int ⊕ (Int × Bool)) = o63 := kk1; refine thA_r ?_; obtain rfl := some_in hh0; exact FinA.mk (r := .tup [iA (((0 : Int), false).1), bA (((0 : Int), false).2)]) (bl := []) [] (.inl rfl) rfl (rl := [.tmp 2, .tmp 3]) (.tmp (.tmp .nil)) rfl rfl rfl (.tupL ⟨.t _, .t _, trivial⟩) trivial ⟨rfl, rfl⟩
      obtain ⟨c72, h_73, hh1⟩ := bind_some hh1; refine PC.rg ?_; (iterate 2 refine PL.mT rfl rfl ?_); refine PL.op rfl (Rd.ixSM rfl rfl h_70) ?_; refine PL.op rfl (Rd.lssU rfl rfl) ?_; refine PL.mT rfl rfl ?_; refine PL.gn rfl h_71 ?_; refine PL.mT rfl rfl ?_; refine PL.gn rfl h_71 ?_; refine PL.mT rfl rfl ?_; refine PL.gn rfl h_71 ?_; refine PL.op rfl (Rd.ixSM rfl rfl h_73) ?_; refine PL.gn rfl h_71 ?_; refine PL.op rfl (Rd.gtrU rfl rfl) ?_; refine PL.op rfl (Rd.pick_f rfl h_71) ?_; refine PL.nn ?_; rcases cond_some hh1 with ⟨h_74, hh1⟩ | ⟨h_74, hh1⟩
      · refine PC.ct rfl h_74 ?_; refine PC.seq ?_; refine PC.rg ?_; (iterate 2 refine PL.aT rfl rfl ?_); refine PL.nn ?_; refine PC.ret ?_; refine thA_r ?_; refine inA_r ?_; (iterate 2 refine thA_r ?_); refine inA_r ?_; refine thA_r ?_; obtain rfl := some_in hh1; obtain rfl : (.inr ((0 : Int), false) : Int ⊕ (Int × Bool)) = o63 := kk1; refine thA_r ?_; obtain rfl := some_in hh0; exact FinA.mk (r := .tup [iA (((0 : Int), false).1), bA (((0 : Int), false).2)]) (bl := []) [] (.inl rfl) rfl (rl := [.tmp 2, .tmp 3]) (.tmp (.tmp .nil)) rfl rfl rfl (.tupL ⟨.t _, .t _, trivial⟩) trivial ⟨rfl, rfl⟩
      refine PC.cf rfl h_74 ?_; refine PC.skip ?_; refine thA_n ?_; obtain ⟨n75, h_76, hh1⟩ := bind_some hh1; obtain ⟨c77, h_78, hh1⟩ := bind_some hh1; obtain ⟨n79, h_80, hh1⟩ := bind_some hh1; refine PC.rg ?_; refine PL.mT rfl rfl ?_; refine PL.op rfl (Rd.mulM rfl rfl h_76) ?_; (iterate 2 refine PL.mT rfl rfl ?_); refine PL.op rfl (Rd.ixSM rfl rfl h_78) ?_; refine PL.op rfl (Rd.subU (a := c77) (b := (48 : UInt8)) rfl rfl) ?_; refine PL.op rfl (Rd.u8 rfl) ?_; refine PL.op rfl (Rd.addM rfl rfl h_80) ?_; refine PL.aT rfl rfl ?_; refine PL.nil ?_; refine inA_n ?_; refine thA_n ?_; obtain ⟨n81, h_82, hh1⟩ := bind_some hh1; refine PC.rg ?_; refine PL.mT rfl rfl ?_; refine PL.op rfl (Rd.addM rfl rfl h_82) ?_; refine PL.aT rfl rfl ?_; refine PL.nil ?_; obtain rfl := some_in hh1; refine thA_n ?_; exact ⟨(f65, (n79, n81)), Nat.lt_succ_self _, kk1, [], ⟨rfl, rfl, trivial, ⟨.t _, .t _, .t _, trivial⟩⟩⟩
    clear hh0
    rintro i62 hh0
    replace hh0 : m_I_parseNumber_k2 N i62 = some r := hh0
    unfold m_I_parseNumber_k2 at hh0; refine thA_n ?_; refine PC.seq ?_; refine PC.rg ?_; refine PL.mT rfl rfl ?_; (iterate 2 refine PL.aT rfl rfl ?_); refine PL.nn ?_; refine PC.ret ?_; obtain rfl := some_in hh0; exact FinA.mk (r := .tup [iA ((i62, true).1), bA ((i62, true).2)]) (bl := []) [] (.inl rfl) rfl (rl := [.tmp 2, .tmp 3]) (.tmp (.tmp .nil)) rfl rfl rfl (.tupL ⟨.t _, .t _, trivial⟩) trivial ⟨rfl, rfl⟩
  refine PC.rg ?_; refine PL.mT rfl rfl ?_; refine PL.op rfl (Rd.eqlS rfl rfl) ?_; refine PL.mT rfl rfl ?_; refine PL.gn rfl h_1 ?_; refine PL.mT rfl rfl ?_; refine PL.gn rfl h_1 ?_; refine PL.op rfl (Rd.lenSt rfl) ?_; refine PL.gn rfl h_1 ?_; refine PL.op rfl (Rd.gtr rfl rfl) ?_; refine PL.op rfl (Rd.pick_f rfl h_1) ?_; refine PL.mT rfl rfl ?_; refine PL.gn rfl h_2 ?_; refine PL.mT rfl rfl ?_; refine PL.gn rfl h_2 ?_; refine PL.op rfl (Rd.ixSM rfl rfl h_4) ?_; refine PL.gn rfl h_2 ?_; refine PL.op rfl (Rd.eqlU rfl rfl) ?_; refine PL.gn rfl h_2 ?_; refine PL.mT rfl rfl ?_; refine PL.gn rfl h_5 ?_; refine PL.mT rfl rfl ?_; refine PL.gn rfl h_5 ?_; refine PL.op rfl (Rd.neqS rfl rfl) ?_; refine PL.gn rfl h_2 ?_; refine PL.op rfl (Rd.pick_t rfl h_5) ?_; refine PL.op rfl (Rd.pick_f rfl h_2) ?_; refine PL.nn ?_; rcases cond_some hh0 with ⟨h_6, hh0⟩ | ⟨h_6, hh0⟩; rotate_left
  · refine PC.ct rfl (not_f h_6) ?_; refine PC.seq ?_; refine PC.rg ?_; (iterate 2 refine PL.aT rfl rfl ?_); refine PL.nn ?_; refine PC.ret ?_; refine thA_r ?_; obtain rfl := some_in hh0; exact FinA.mk (r := .tup [iA (((0 : Int), false).1), bA (((0 : Int), false).2)]) (bl := []) [] (.inl rfl) rfl (rl := [.tmp 2, .tmp 3]) (.tmp (.tmp .nil)) rfl rfl rfl (.tupL ⟨.t _, .t _, trivial⟩) trivial ⟨rfl, rfl⟩
  refine PC.cf rfl (not_t h_6) ?_; refine PC.skip ?_; refine thA_n ?_; refine PC.seq ?_; refine PC.rg ?_; refine PL.aT rfl rfl ?_; refine PL.nn ?_; (iterate 2 refine PC.seq ?_); refine PC.rg ?_; refine PL.aT rfl rfl ?_; refine PL.nn ?_; obtain ⟨o25, h_26, hh0⟩ := bind_some hh0; refine PC.cutE hs (fun x : Int => [(4, iA x)]) (fun x => []) (fun x => m_I_parseNumber_k1 N x = some r) ?_ ?_
  · refine PC.block ?_; refine PC.loop hs (fun x : Nat × (Int × Int) => [(0, sA p_w), (4, iA x.2.1), (5, iA x.2.2)]) (fun x => []) (fun x => loopM (β := Int ⊕ (Int × Bool)) (fun s : Int × Int => m_I_parseNumber_b1 N p_w s.1 s.2) x.1 x.2 = some o25) (fun x => x.1) (N, ((0 : Int), (0 : Int))) [] ⟨rfl, rfl, trivial, ⟨.t _, .t _, .t _, trivial⟩⟩ h_26 ?_
    rintro ⟨f27_, i7, i8⟩ h_29
    obtain ⟨f27, y28, rfl, hh1, kk1⟩ := loopM_some h_29
    replace hh1 : m_I_parseNumber_b1 N p_w i7 i8 = some y28 := hh1
    unfold m_I_parseNumber_b1 at hh1; (iterate 2 refine PC.seq ?_); refine PC.rg ?_; (iterate 2 refine PL.mT rfl rfl ?_); refine PL.op rfl (Rd.lenSt rfl) ?_; refine PL.op rfl (Rd.lss rfl rfl) ?_; refine PL.nn ?_; rcases cond_some hh1 with ⟨h_30, hh1⟩ | ⟨h_30, hh1⟩; rotate_left
    · refine PC.cf rfl h_30 ?_; refine PC.exit ?_; (iterate 2 refine thA_e ?_); refine inA_eq rfl ?_; refine thA_n ?_; obtain rfl := some_in hh1; obtain rfl : (.inl i7 : Int ⊕ (Int × Bool)) = o25 := kk1; exact ⟨i7, hh0, [], ⟨rfl, rfl, trivial, ⟨.t _, trivial⟩⟩⟩
    refine PC.ct rfl h_30 ?_; refine PC.skip ?_; refine thA_n ?_; refine PC.seq ?_; refine PC.block ?_; (iterate 2 refine PC.seq ?_); obtain ⟨c31, h_32, hh1⟩ := bind_some hh1; rcases cond_some hh1 with ⟨h_33, hh1⟩ | ⟨h_33, hh1⟩
    · refine PC.rg ?_; (iterate 2 refine PL.mT rfl rfl ?_); refine PL.op rfl (Rd.ixSM rfl rfl h_32) ?_; refine PL.op rfl (Rd.lssU rfl rfl) ?_; refine PL.mT rfl rfl ?_; (iterate 4 refine PL.gf rfl rfl h_33 ?_); refine PL.op rfl (Rd.pick_t rfl h_33) ?_; refine PL.nn ?_; refine PC.ct rfl rfl ?_; refine PC.seq ?_; refine PC.rg ?_; (iterate 2 refine PL.aT rfl rfl ?_); refine PL.nn ?_; refine PC.ret ?_; refine thA_r ?_; refine inA_r ?_; (iterate 2 refine thA_r ?_); refine inA_r ?_; refine thA_r ?_; obtain rfl := some_in hh1; obtain rfl : (.inr ((0 : Int), false) : Int ⊕ (Int × Bool)) = o25 := kk1; refine thA_r ?_; obtain rfl := some_in hh0; exact FinA.mk (r := .tup [iA (((0 : Int), false).1), bA (((0 : Int), false).2)]) (bl := []) [] (.inl rfl) rfl (rl := [.tmp 2, .tmp 3]) (.tmp (.tmp .nil)) rfl rfl rfl (.tupL ⟨.t _, .t _, trivial⟩) trivial ⟨rfl, rfl⟩
    obtain ⟨c34, h_35, hh1⟩ := bind_some hh1; refine PC.rg ?_; (iterate 2 refine PL.mT rfl rfl ?_); refine PL.op rfl (Rd.ixSM rfl rfl h_32) ?_; refine PL.op rfl (Rd.lssU rfl rfl) ?_; refine PL.mT rfl rfl ?_; refine PL.gn rfl h_33 ?_; refine PL.mT rfl rfl ?_; refine PL.gn rfl h_33 ?_; refine PL.mT rfl rfl ?_; refine PL.gn rfl h_33 ?_; refine PL.op rfl (Rd.ixSM rfl rfl h_35) ?_; refine PL.gn rfl h_33 ?_; refine PL.op rfl (Rd.gtrU rfl rfl) ?_; refine PL.op rfl (Rd.pick_f rfl h_33) ?_; refine PL.nn ?_; rcases cond_some hh1 with ⟨h_36, hh1⟩ | ⟨h_36, hh1⟩
    · refine PC.ct rfl h_36 ?_; refine PC.seq ?_; refine PC.rg ?_; (iterate 2 refine PL.aT rfl rfl ?_); refine PL.nn ?_; refine PC.ret ?_; refine thA_r ?_; refine inA_r ?_; (iterate 2 refine thA_r ?_); refine inA_r ?_; refine thA_r ?_; obtain rfl := some_in hh1; obtain rfl : (.inr ((0 : Int), false) : Int ⊕ (Int × Bool)) = o25 := kk1; refine thA_r ?_; obtain rfl := some_in hh0; exact FinA.mk (r := .tup [iA (((0 : Int), false).1), bA (((0 : Int), false).2)]) (bl := []) [] (.inl rfl) rfl (rl := [.tmp 2, .tmp 3]) (.tmp (.tmp .nil)) rfl rfl rfl (.tupL ⟨.t _, .t _, trivial⟩) trivial ⟨rfl, rfl⟩
    refine PC.cf rfl h_36 ?_; refine PC.skip ?_; refine thA_n ?_; obtain ⟨n37, h_38, hh1⟩ := bind_some hh1; obtain ⟨c39, h_40, hh1⟩ := bind_some hh1; obtain ⟨n41, h_42, hh1⟩ := bind_some hh1; refine PC.rg ?_; refine PL.mT rfl rfl ?_; refine PL.op rfl (Rd.mulM rfl rfl h_38) ?_; (iterate 2 refine PL.mT rfl rfl ?_); refine PL.op rfl (Rd.ixSM rfl rfl h_40) ?_; refine PL.op rfl (Rd.subU (a := c39) (b := (48 : UInt8)) rfl rfl) ?_; refine PL.op rfl (Rd.u8 rfl) ?_; refine PL.op rfl (Rd.addM rfl rfl h_42) ?_; refine PL.aT rfl rfl ?_; refine PL.nil ?_; refine inA_n ?_; refine thA_n ?_; obtain ⟨n43, h_44, hh1⟩ := bind_some hh1; refine PC.rg ?_; refine PL.mT rfl rfl ?_; refine PL.op rfl (Rd.addM rfl rfl h_44) ?_; refine PL.aT rfl rfl ?_; refine PL.nil ?_; obtain rfl := some_in hh1; refine thA_n ?_; exact ⟨(f27, (n41, n43)), Nat.lt_succ_self _, kk1, [], ⟨rfl, rfl, trivial, ⟨.t _, .t _, .t _, trivial⟩⟩⟩
  clear hh0
  rintro i24 hh0
  replace hh0 : m_I_parseNumber_k1 N i24 = some r := hh0
  unfold m_I_parseNumber_k1 at hh0; refine thA_n ?_; refine PC.seq ?_; refine PC.rg ?_; refine PL.mT rfl rfl ?_; (iterate 2 refine PL.aT rfl rfl ?_); refine PL.nn ?_; refine PC.ret ?_; obtain rfl := some_in hh0; exact FinA.mk (r := .tup [iA ((i24, true).1), bA ((i24, true).2)]) (bl := []) [] (.inl rfl) rfl (rl := [.tmp 2, .tmp 3]) (.tmp (.tmp .nil)) rfl rfl rfl (.tupL ⟨.t _, .t _, trivial⟩) trivial ⟨rfl, rfl⟩
def m_I_parseValue (N : Nat) (p_w : ByteArray) : Option (I_Value) :=
  cond (p_w.toList == (ByteArray.mk #[45]).toList)
    (some (I_Value.mk (0 : Int) (0 : Int) ByteArray.empty))
    ((m_strings_CutPrefix N p_w (ByteArray.mk #[45])).bind fun r2 =>
    (m_I_parseNumber N r2.1).bind fun r4 =>
    cond r4.2
      (cond r2.2
        (cond (decide (r4.1 = (0 : Int)))
          (some (I_Value.mk (2 : Int) (0 : Int) p_w))
          ((chk (-r4.1)).bind fun n9 =>
          some (I_Value.mk (1 : Int) n9 ByteArray.empty)))
        (some (I_Value.mk (1 : Int) r4.1 ByteArray.empty)))
      (some (I_Value.mk (2 : Int) (0 : Int) p_w)))
theorem w_I_parseValue (N : Nat) (p_w : ByteArray) (r : I_Value) (hh0 : m_I_parseValue N p_w = some r) : FnX Tryz.prog 28 [] [sA p_w] (RE (.agg [iA r.kind, iA r.num, sA r.text]) []) := by
  unfold m_I_parseValue at hh0; refine FnX.mk Tryz.func28 rfl rfl ?_; intro s hs; refine PC.seq ?_; refine PC.rg ?_; refine PL.ef rfl (Ef.alloc rfl rfl) ?_; refine PL.nm (.op 0 0) [some ⟨.mx [iA (0 : Int), iA (0 : Int), sA ByteArray.empty], 64, 0⟩] rfl rfl ?_; refine PL.nn ?_; (iterate 2 refine PC.seq ?_); refine PC.rg ?_; refine PL.mT rfl rfl ?_; refine PL.op rfl (Rd.eqlS rfl rfl) ?_; refine PL.nn ?_; rcases cond_some hh0 with ⟨h_1, hh0⟩ | ⟨h_1, hh0⟩
  · refine PC.ct rfl h_1 ?_; refine PC.seq ?_; refine PC.rg ?_; refine PL.op rfl (Rd.build rfl rfl rfl rfl) ?_; refine PL.store rfl rfl rfl rfl rfl rfl rfl ?_; refine PL.nn ?_; refine PC.ret ?_; refine thA_r ?_; obtain rfl := some_in hh0; exact FinA.mk (r := .agg [iA (0 : Int), iA (0 : Int), sA ByteArray.empty]) (bl := []) [] (.inl rfl) rfl (rl := [.cell 2 64]) (.cellN rfl rfl rfl rfl .nil) rfl rfl rfl (.aggL ⟨.t _, .t _, .t _, trivial⟩) trivial ⟨rfl, rfl⟩
  refine PC.cf rfl h_1 ?_; refine PC.skip ?_; refine thA_n ?_; refine PC.seq ?_; obtain ⟨r2, h_3, hh0⟩ := bind_some hh0; refine PC.rg ?_; refine PL.mT rfl rfl ?_; refine PL.callM false [] (w_strings_CutPrefix N p_w (ByteArray.mk #[45]) r2 h_3) rfl Tryz.call47 rfl ⟨.t _, .t _, trivial⟩ rfl trivial (fun h => by cases h) ?_; refine PL.op rfl (Rd.moveU rfl) ?_; (iterate 2 refine PL.op rfl (Rd.extract rfl rfl) ?_); (iterate 2 refine PL.aT rfl rfl ?_); refine PL.nn ?_; refine PC.seq ?_; obtain ⟨r4, h_5, hh0⟩ := bind_some hh0; refine PC.rg ?_; refine PL.mT rfl rfl ?_; refine PL.callM false [] (w_I_parseNumber N r2.1 r4 h_5) rfl Tryz.call48 rfl ⟨.t _, trivial⟩ rfl trivial (fun h => by cases h) ?_; refine PL.op rfl (Rd.moveU rfl) ?_; (iterate 2 refine PL.op rfl (Rd.extract rfl rfl) ?_); (iterate 2 refine PL.aT rfl rfl ?_); refine PL.nn ?_; (iterate 2 refine PC.seq ?_); rcases cond_some hh0 with ⟨h_6, hh0⟩ | ⟨h_6, hh0⟩; rotate_left
  · refine PC.rg ?_; refine PL.mT rfl rfl ?_; refine PL.op rfl (Rd.unnot rfl) ?_; refine PL.mT rfl rfl ?_; (iterate 2 refine PL.gf rfl rfl (not_f h_6) ?_); (iterate 2 refine PL.guard_un rfl rfl ?_); refine PL.gf rfl rfl (not_f h_6) ?_; refine PL.op rfl (Rd.pick_t rfl (not_f h_6)) ?_; refine PL.nn ?_; refine PC.ct rfl rfl ?_; refine PC.seq ?_; refine PC.rg ?_; refine PL.mT rfl rfl ?_; refine PL.op rfl (Rd.build rfl rfl rfl rfl) ?_; refine PL.store rfl rfl rfl rfl rfl rfl rfl ?_; refine PL.nO [some ⟨.mx [iA (2 : Int), iA (0 : Int), sA p_w], 64, 0⟩] rfl ?_; refine PL.nn ?_; refine PC.ret ?_; refine thA_r ?_; obtain rfl := some_in hh0; exact FinA.mk (r := .agg [iA (2 : Int), iA (0 : Int), sA p_w]) (bl := []) [] (.inl rfl) rfl (rl := [.cell 2 64]) (.cellN rfl rfl rfl rfl .nil) rfl rfl rfl (.aggL ⟨.t _, .t _, .t _, trivial⟩) trivial ⟨rfl, rfl⟩
  rcases cond_some hh0 with ⟨h_7, hh0⟩ | ⟨h_7, hh0⟩; rotate_left
  · refine PC.rg ?_; refine PL.mT rfl rfl ?_; refine PL.op rfl (Rd.unnot rfl) ?_; refine PL.mT rfl rfl ?_; refine PL.gn rfl (not_t h_6) ?_; refine PL.mT rfl rfl ?_; refine PL.gn rfl (not_t h_6) ?_; refine PL.mT rfl rfl ?_; (iterate 2 refine PL.gf rfl rfl h_7 ?_); refine PL.gn rfl (not_t h_6) ?_; refine PL.op rfl (Rd.pick_f rfl h_7) ?_; refine PL.op rfl (Rd.pick_f rfl (not_t h_6)) ?_; refine PL.nn ?_; refine PC.cf rfl rfl ?_; refine PC.skip ?_; refine thA_n ?_; (iterate 2 refine PC.seq ?_); refine PC.rg ?_; refine PL.mT rfl rfl ?_; refine PL.nn ?_; refine PC.cf rfl h_7 ?_; refine PC.skip ?_; refine thA_n ?_; refine PC.seq ?_; refine PC.rg ?_; refine PL.mT rfl rfl ?_; refine PL.op rfl (Rd.build rfl rfl rfl rfl) ?_; refine PL.store rfl rfl rfl rfl rfl rfl rfl ?_; refine PL.nO [some ⟨.mx [iA (1 : Int), iA r4.1, sA ByteArray.empty], 64, 0⟩] rfl ?_; refine PL.nn ?_; refine PC.ret ?_; obtain rfl := some_in hh0; exact FinA.mk (r := .agg [iA (1 : Int), iA r4.1, sA ByteArray.empty]) (bl := []) [] (.inl rfl) rfl (rl := [.cell 2 64]) (.cellN rfl rfl rfl rfl .nil) rfl rfl rfl (.aggL ⟨.t _, .t _, .t _, trivial⟩) trivial ⟨rfl, rfl⟩
  refine PC.rg ?_; refine PL.mT rfl rfl ?_; refine PL.op rfl (Rd.unnot rfl) ?_; refine PL.mT rfl rfl ?_; refine PL.gn rfl (not_t h_6) ?_; refine PL.mT rfl rfl ?_; refine PL.gn rfl (not_t h_6) ?_; refine PL.mT rfl rfl ?_; refine PL.gn rfl h_7 ?_; refine PL.mT rfl rfl ?_; refine PL.gn rfl h_7 ?_; refine PL.op rfl (Rd.eql rfl rfl) ?_; refine PL.gn rfl (not_t h_6) ?_; refine PL.op rfl (Rd.pick_t rfl h_7) ?_; refine PL.op rfl (Rd.pick_f rfl (not_t h_6)) ?_; refine PL.nn ?_; rcases cond_some hh0 with ⟨h_8, hh0⟩ | ⟨h_8, hh0⟩
  · refine PC.ct rfl h_8 ?_; refine PC.seq ?_; refine PC.rg ?_; refine PL.mT rfl rfl ?_; refine PL.op rfl (Rd.build rfl rfl rfl rfl) ?_; refine PL.store rfl rfl rfl rfl rfl rfl rfl ?_; refine PL.nO [some ⟨.mx [iA (2 : Int), iA (0 : Int), sA p_w], 64, 0⟩] rfl ?_; refine PL.nn ?_; refine PC.ret ?_; refine thA_r ?_; obtain rfl := some_in hh0; exact FinA.mk (r := .agg [iA (2 : Int), iA (0 : Int), sA p_w]) (bl := []) [] (.inl rfl) rfl (rl := [.cell 2 64]) (.cellN rfl rfl rfl rfl .nil) rfl rfl rfl (.aggL ⟨.t _, .t _, .t _, trivial⟩) trivial ⟨rfl, rfl⟩
  refine PC.cf rfl h_8 ?_; refine PC.skip ?_; refine thA_n ?_; (iterate 2 refine PC.seq ?_); refine PC.rg ?_; refine PL.mT rfl rfl ?_; refine PL.nn ?_; refine PC.ct rfl h_7 ?_; obtain ⟨n9, h_10, hh0⟩ := bind_some hh0; refine PC.rg ?_; refine PL.mT rfl rfl ?_; refine PL.op rfl (Rd.negM rfl h_10) ?_; refine PL.aT rfl rfl ?_; refine PL.nn ?_; refine PC.seq ?_; refine PC.rg ?_; refine PL.mT rfl rfl ?_; refine PL.op rfl (Rd.build rfl rfl rfl rfl) ?_; refine PL.store rfl rfl rfl rfl rfl rfl rfl ?_; refine PL.nO [some ⟨.mx [iA (1 : Int), iA n9, sA ByteArray.empty], 64, 0⟩] rfl ?_; refine PL.nn ?_; refine PC.ret ?_; obtain rfl := some_in hh0; exact FinA.mk (r := .agg [iA (1 : Int), iA n9, sA ByteArray.empty]) (bl := []) [] (.inl rfl) rfl (rl := [.cell 2 64]) (.cellN rfl rfl rfl rfl .nil) rfl rfl rfl (.aggL ⟨.t _, .t _, .t _, trivial⟩) trivial ⟨rfl, rfl⟩
def m_I_session_alter (N : Nat) (p_s : I_session) (p_kind : Int) (p_at : ByteArray) (p_column : I_Column) : Option (Bool × I_session) :=
  (m_I_parseNumber N p_at).bind fun r1 =>
  cond r1.2
    ((m_I_AlterTable N p_s.table (I_Change.mk p_kind r1.1 p_column)).bind fun r4 =>
    cond r4.2
      (some (r4.2, (I_session.mk r4.1 p_s.has)))
      (some (r4.2, p_s)))
    (some (false, p_s))
theorem w_I_session_alter (N : Nat) (p_s : I_session) (p_kind : Int) (p_at : ByteArray) (p_column : I_Column) (r : Bool × I_session) (hh0 : m_I_session_alter N p_s p_kind p_at p_column = some r) : FnX Tryz.prog 29 [⟨.mx [sL p_s.table.first, sL p_s.table.changes, sL p_s.table.rows, bA p_s.has], 43, 0⟩] [.op 0 0, iA p_kind, sA p_at, .agg [iA p_column.kind, iA p_column.default.kind, iA p_column.default.num, sA p_column.default.text]] (RE (bA r.1) [⟨.mx [sL r.2.table.first, sL r.2.table.changes, sL r.2.table.rows, bA r.2.has], 43, 0⟩]) := by
  unfold m_I_session_alter at hh0; refine FnX.mk Tryz.func29 rfl rfl ?_; intro s hs; refine PC.seq ?_; refine PC.rg ?_; refine PL.ef rfl (Ef.box rfl rfl rfl) ?_; refine PL.nm (.op 1 0) [some ⟨.mx [sL p_s.table.first, sL p_s.table.changes, sL p_s.table.rows, bA p_s.has], 43, 0⟩, some ⟨.mx [iA p_column.kind, iA p_column.default.kind, iA p_column.default.num, sA p_column.default.text], 67, 0⟩] rfl rfl ?_; refine PL.aT rfl rfl ?_; refine PL.nn ?_; refine PC.seq ?_; obtain ⟨r1, h_2, hh0⟩ := bind_some hh0; refine PC.rg ?_; refine PL.mT rfl rfl ?_; refine PL.callM false [] (w_I_parseNumber N p_at r1 h_2) rfl Tryz.call48 rfl ⟨.t _, trivial⟩ rfl trivial (fun h => by cases h) ?_; refine PL.op rfl (Rd.moveU rfl) ?_; (iterate 2 refine PL.op rfl (Rd.extract rfl rfl) ?_); (iterate 2 refine PL.aT rfl rfl ?_); refine PL.nn ?_; (iterate 2 refine PC.seq ?_); refine PC.rg ?_; refine PL.mT rfl rfl ?_; refine PL.op rfl (Rd.unnot rfl) ?_; refine PL.nn ?_; rcases cond_some hh0 with ⟨h_3, hh0⟩ | ⟨h_3, hh0⟩; rotate_left
  · refine PC.ct rfl (not_f h_3) ?_; refine PC.seq ?_; refine PC.rg ?_; refine PL.aT rfl rfl ?_; refine PL.nn ?_; refine PC.ret ?_; refine thA_r ?_; obtain rfl := some_in hh0; exact FinA.mk (r := bA ((false, p_s).1)) (bl := [⟨.mx [sL ((false, p_s).2.table.first), sL ((false, p_s).2.table.changes), sL ((false, p_s).2.table.rows), bA ((false, p_s).2.has)], 43, 0⟩]) [some 0] (.inl rfl) rfl (rl := [.tmp 8]) (.tmp .nil) rfl rfl rfl (.t _) ⟨⟨_, rfl, rfl, rfl, .mx ⟨.t _, .t _, .t _, .t _, trivial⟩⟩, trivial⟩ ⟨rfl, rfl⟩
  refine PC.cf rfl (not_t h_3) ?_; refine PC.skip ?_; refine thA_n ?_; obtain ⟨r4, h_5, hh0⟩ := bind_some hh0; refine PC.cut hs (fun _ : Unit => [(0, .op 0 0), (10, bA r4.2), (11, .op 1 0)]) (fun _ => [⟨.mx [sL p_s.table.first, sL p_s.table.changes, sL p_s.table.rows, bA p_s.has], 43, 0⟩, ⟨.mx [.os 2 0 r4.1.first.length, .os 3 0 r4.1.changes.length, .os 4 0 r4.1.rows.length], 41, 0⟩, ⟨.tr (eL r4.1.first), 67, 4⟩, ⟨.tr (eL r4.1.changes), 74, 6⟩, ⟨.tr (eL r4.1.rows), 106, 2⟩]) (fun _ => True) ?_ ?_
  · refine PC.any (id := 4) 15 (.seg [0, 1, 2, 4, 5, 6, 7] (.fork (.seg [3] (.fork (.seg [8, 9, 10, 11, 12, 13, 14] .done) (.seg [12, 8, 9, 10, 11, 13, 14] .done))) (.seg [12, 3, 8, 9, 10, 11, 13, 14] .done))) [] rfl (by kernel_rfl) rfl ?_; refine PT.seg ?_; refine PR.op rfl (Rd.moveP rfl) ?_; refine PR.op rfl (Rd.nilCheckO rfl rfl) ?_; refine PR.op rfl (Rd.fieldO rfl rfl) ?_; (iterate 2 refine PR.op rfl (Rd.moveT rfl) ?_); refine PR.op rfl (Rd.loadBox rfl rfl rfl) ?_; refine PR.op rfl (Rd.build rfl rfl rfl rfl) ?_; refine PR.nil ?_; refine PT.fork ?_ ?_; rotate_left
    · refine PT.seg ?_; refine PR.efX rfl rfl (Ef.alloc rfl rfl) ?_; refine PR.nm (.op 2 0) [some ⟨.mx [sL p_s.table.first, sL p_s.table.changes, sL p_s.table.rows, bA p_s.has], 43, 0⟩, some ⟨.mx [iA p_column.kind, iA p_column.default.kind, iA p_column.default.num, sA p_column.default.text], 67, 0⟩, some ⟨.mx [.t (.v (.slice none 0 0)), .t (.v (.slice none 0 0)), .t (.v (.slice none 0 0))], 41, 0⟩] rfl rfl ?_; refine PR.rdE rfl rfl (Rd.loadSub rfl rfl rfl rfl) ?_; refine PR.callM false [] (w_I_AlterTable N p_s.table (I_Change.mk p_kind r1.1 p_column) r4 h_5) rfl Tryz.call49 rfl ⟨.aggL ⟨.t _, .t _, .t _, trivial⟩, .aggL ⟨.t _, .t _, .t _, .t _, .t _, .t _, trivial⟩, trivial⟩ rfl trivial (fun h => by cases h) rfl ?_; refine PR.nm (.tup [.agg [.os 3 0 r4.1.first.length, .os 4 0 r4.1.changes.length, .os 5 0 r4.1.rows.length], bA r4.2]) [some ⟨.mx [sL p_s.table.first, sL p_s.table.changes, sL p_s.table.rows, bA p_s.has], 43, 0⟩, some ⟨.mx [iA p_column.kind, iA p_column.default.kind, iA p_column.default.num, sA p_column.default.text], 67, 0⟩, some ⟨.mx [.t (.v (.slice none 0 0)), .t (.v (.slice none 0 0)), .t (.v (.slice none 0 0))], 41, 0⟩, some ⟨.tr (eL r4.1.first), 67, 4⟩, some ⟨.tr (eL r4.1.changes), 74, 6⟩, some ⟨.tr (eL r4.1.rows), 106, 2⟩] rfl rfl ?_; refine PR.op rfl (Rd.moveU rfl) ?_; (iterate 2 refine PR.op rfl (Rd.extract rfl rfl) ?_); refine PR.store rfl rfl rfl rfl rfl rfl rfl rfl ?_; refine PR.nO [some ⟨.mx [sL p_s.table.first, sL p_s.table.changes, sL p_s.table.rows, bA p_s.has], 43, 0⟩, some ⟨.mx [iA p_column.kind, iA p_column.default.kind, iA p_column.default.num, sA p_column.default.text], 67, 0⟩, some ⟨.mx [.os 3 0 r4.1.first.length, .os 4 0 r4.1.changes.length, .os 5 0 r4.1.rows.length], 41, 0⟩, some ⟨.tr (eL r4.1.first), 67, 4⟩, some ⟨.tr (eL r4.1.changes), 74, 6⟩, some ⟨.tr (eL r4.1.rows), 106, 2⟩] rfl ?_; refine PR.op rfl (Rd.asnT rfl) ?_; refine PR.nil ?_; refine PT.done ?_; refine PL.nn ?_; exact ⟨(), trivial, [some 0, some 2, some 3, some 4, some 5], ⟨rfl, rfl, ⟨⟨_, rfl, rfl, rfl, .mx ⟨.t _, .t _, .t _, .t _, trivial⟩⟩, ⟨_, rfl, rfl, rfl, .mx ⟨.os rfl, .os rfl, .os rfl, trivial⟩⟩, ⟨_, rfl, rfl, rfl, .tr _⟩, ⟨_, rfl, rfl, rfl, .tr _⟩, ⟨_, rfl, rfl, rfl, .tr _⟩, trivial⟩, ⟨.op rfl, .t _, .op rfl, trivial⟩⟩⟩
    refine PT.seg ?_; refine PR.rdE rfl rfl (Rd.loadSub rfl rfl rfl rfl) ?_; refine PR.nil ?_; refine PT.fork ?_ ?_; rotate_left
    · refine PT.seg ?_; refine PR.efX rfl rfl (Ef.alloc rfl rfl) ?_; refine PR.nm (.op 2 0) [some ⟨.mx [sL p_s.table.first, sL p_s.table.changes, sL p_s.table.rows, bA p_s.has], 43, 0⟩, some ⟨.mx [iA p_column.kind, iA p_column.default.kind, iA p_column.default.num, sA p_column.default.text], 67, 0⟩, some ⟨.mx [.t (.v (.slice none 0 0)), .t (.v (.slice none 0 0)), .t (.v (.slice none 0 0))], 41, 0⟩] rfl rfl ?_; refine PR.callM false [] (w_I_AlterTable N p_s.table (I_Change.mk p_kind r1.1 p_column) r4 h_5) rfl Tryz.call49 rfl ⟨.aggL ⟨.t _, .t _, .t _, trivial⟩, .aggL ⟨.t _, .t _, .t _, .t _, .t _, .t _, trivial⟩, trivial⟩ rfl trivial (fun h => by cases h) rfl ?_; refine PR.nm (.tup [.agg [.os 3 0 r4.1.first.length, .os 4 0 r4.1.changes.length, .os 5 0 r4.1.rows.length], bA r4.2]) [some ⟨.mx [sL p_s.table.first, sL p_s.table.changes, sL p_s.table.rows, bA p_s.has], 43, 0⟩, some ⟨.mx [iA p_column.kind, iA p_column.default.kind, iA p_column.default.num, sA p_column.default.text], 67, 0⟩, some ⟨.mx [.t (.v (.slice none 0 0)), .t (.v (.slice none 0 0)), .t (.v (.slice none 0 0))], 41, 0⟩, some ⟨.tr (eL r4.1.first), 67, 4⟩, some ⟨.tr (eL r4.1.changes), 74, 6⟩, some ⟨.tr (eL r4.1.rows), 106, 2⟩] rfl rfl ?_; refine PR.op rfl (Rd.moveU rfl) ?_; (iterate 2 refine PR.op rfl (Rd.extract rfl rfl) ?_); refine PR.store rfl rfl rfl rfl rfl rfl rfl rfl ?_; refine PR.nO [some ⟨.mx [sL p_s.table.first, sL p_s.table.changes, sL p_s.table.rows, bA p_s.has], 43, 0⟩, some ⟨.mx [iA p_column.kind, iA p_column.default.kind, iA p_column.default.num, sA p_column.default.text], 67, 0⟩, some ⟨.mx [.os 3 0 r4.1.first.length, .os 4 0 r4.1.changes.length, .os 5 0 r4.1.rows.length], 41, 0⟩, some ⟨.tr (eL r4.1.first), 67, 4⟩, some ⟨.tr (eL r4.1.changes), 74, 6⟩, some ⟨.tr (eL r4.1.rows), 106, 2⟩] rfl ?_; refine PR.op rfl (Rd.asnT rfl) ?_; refine PR.nil ?_; refine PT.done ?_; refine PL.nn ?_; exact ⟨(), trivial, [some 0, some 2, some 3, some 4, some 5], ⟨rfl, rfl, ⟨⟨_, rfl, rfl, rfl, .mx ⟨.t _, .t _, .t _, .t _, trivial⟩⟩, ⟨_, rfl, rfl, rfl, .mx ⟨.os rfl, .os rfl, .os rfl, trivial⟩⟩, ⟨_, rfl, rfl, rfl, .tr _⟩, ⟨_, rfl, rfl, rfl, .tr _⟩, ⟨_, rfl, rfl, rfl, .tr _⟩, trivial⟩, ⟨.op rfl, .t _, .op rfl, trivial⟩⟩⟩
    refine PT.seg ?_; refine PR.callM false [] (w_I_AlterTable N p_s.table (I_Change.mk p_kind r1.1 p_column) r4 h_5) rfl Tryz.call49 rfl ⟨.aggL ⟨.t _, .t _, .t _, trivial⟩, .aggL ⟨.t _, .t _, .t _, .t _, .t _, .t _, trivial⟩, trivial⟩ rfl trivial (fun h => by cases h) rfl ?_; refine PR.nm (.tup [.agg [.os 2 0 r4.1.first.length, .os 3 0 r4.1.changes.length, .os 4 0 r4.1.rows.length], bA r4.2]) [some ⟨.mx [sL p_s.table.first, sL p_s.table.changes, sL p_s.table.rows, bA p_s.has], 43, 0⟩, some ⟨.mx [iA p_column.kind, iA p_column.default.kind, iA p_column.default.num, sA p_column.default.text], 67, 0⟩, some ⟨.tr (eL r4.1.first), 67, 4⟩, some ⟨.tr (eL r4.1.changes), 74, 6⟩, some ⟨.tr (eL r4.1.rows), 106, 2⟩] rfl rfl ?_; refine PR.op rfl (Rd.moveU rfl) ?_; (iterate 2 refine PR.op rfl (Rd.extract rfl rfl) ?_); refine PR.efX rfl rfl (Ef.alloc rfl rfl) ?_; refine PR.nm (.op 5 0) [some ⟨.mx [sL p_s.table.first, sL p_s.table.changes, sL p_s.table.rows, bA p_s.has], 43, 0⟩, some ⟨.mx [iA p_column.kind, iA p_column.default.kind, iA p_column.default.num, sA p_column.default.text], 67, 0⟩, some ⟨.tr (eL r4.1.first), 67, 4⟩, some ⟨.tr (eL r4.1.changes), 74, 6⟩, some ⟨.tr (eL r4.1.rows), 106, 2⟩, some ⟨.mx [.t (.v (.slice none 0 0)), .t (.v (.slice none 0 0)), .t (.v (.slice none 0 0))], 41, 0⟩] rfl rfl ?_; refine PR.store rfl rfl rfl rfl rfl rfl rfl rfl ?_; refine PR.nO [some ⟨.mx [sL p_s.table.first, sL p_s.table.changes, sL p_s.table.rows, bA p_s.has], 43, 0⟩, some ⟨.mx [iA p_column.kind, iA p_column.default.kind, iA p_column.default.num, sA p_column.default.text], 67, 0⟩, some ⟨.tr (eL r4.1.first), 67, 4⟩, some ⟨.tr (eL r4.1.changes), 74, 6⟩, some ⟨.tr (eL r4.1.rows), 106, 2⟩, some ⟨.mx [.os 2 0 r4.1.first.length, .os 3 0 r4.1.changes.length, .os 4 0 r4.1.rows.length], 41, 0⟩] rfl ?_; refine PR.op rfl (Rd.asnT rfl) ?_; refine PR.nil ?_; refine PT.done ?_; refine PL.nn ?_; exact ⟨(), trivial, [some 0, some 5, some 2, some 3, some 4], ⟨rfl, rfl, ⟨⟨_, rfl, rfl, rfl, .mx ⟨.t _, .t _, .t _, .t _, trivial⟩⟩, ⟨_, rfl, rfl, rfl, .mx ⟨.os rfl, .os rfl, .os rfl, trivial⟩⟩, ⟨_, rfl, rfl, rfl, .tr _⟩, ⟨_, rfl, rfl, rfl, .tr _⟩, ⟨_, rfl, rfl, rfl, .tr _⟩, trivial⟩, ⟨.op rfl, .t _, .op rfl, trivial⟩⟩⟩
  rintro ⟨⟩ -
  (iterate 2 refine PC.seq ?_); refine PC.rg ?_; refine PL.mT rfl rfl ?_; refine PL.nn ?_; rcases cond_some hh0 with ⟨h_6, hh0⟩ | ⟨h_6, hh0⟩; rotate_left
  · refine PC.cf rfl h_6 ?_; refine PC.skip ?_; refine thA_n ?_; refine PC.seq ?_; refine PC.rg ?_; refine PL.mT rfl rfl ?_; refine PL.aT rfl rfl ?_; refine PL.nn ?_; refine PC.ret ?_; obtain rfl := some_in hh0; exact FinA.mk (r := bA ((r4.2, p_s).1)) (bl := [⟨.mx [sL ((r4.2, p_s).2.table.first), sL ((r4.2, p_s).2.table.changes), sL ((r4.2, p_s).2.table.rows), bA ((r4.2, p_s).2.has)], 43, 0⟩]) [some 0] (.inl rfl) rfl (rl := [.tmp 8]) (.tmp .nil) rfl rfl rfl (.t _) ⟨⟨_, rfl, rfl, rfl, .mx ⟨.t _, .t _, .t _, .t _, trivial⟩⟩, trivial⟩ ⟨rfl, rfl⟩
  refine PC.ct rfl h_6 ?_; refine PC.rg ?_; refine PL.op rfl (Rd.moveP rfl) ?_; refine PL.op rfl (Rd.loadBox rfl rfl rfl) ?_; refine PL.op rfl (Rd.nilCheckO rfl rfl) ?_; refine PL.op rfl (Rd.fieldO rfl rfl) ?_; refine PL.store rfl rfl rfl rfl rfl rfl rfl ?_; refine PL.nO [some ⟨.mx [.os 2 0 r4.1.first.length, .os 3 0 r4.1.changes.length, .os 4 0 r4.1.rows.length, bA p_s.has], 43, 0⟩, some ⟨.mx [.os 2 0 r4.1.first.length, .os 3 0 r4.1.changes.length, .os 4 0 r4.1.rows.length], 41, 0⟩, some ⟨.tr (eL r4.1.first), 67, 4⟩, some ⟨.tr (eL r4.1.changes), 74, 6⟩, some ⟨.tr (eL r4.1.rows), 106, 2⟩] rfl ?_; refine PL.nn ?_; refine PC.seq ?_; refine PC.rg ?_; refine PL.mT rfl rfl ?_; refine PL.aT rfl rfl ?_; refine PL.nn ?_; refine PC.ret ?_; obtain rfl := some_in hh0; exact FinA.mk (r := bA ((r4.2, (I_session.mk r4.1 p_s.has)).1)) (bl := [⟨.mx [sL ((r4.2, (I_session.mk r4.1 p_s.has)).2.table.first), sL ((r4.2, (I_session.mk r4.1 p_s.has)).2.table.changes), sL ((r4.2, (I_session.mk r4.1 p_s.has)).2.table.rows), bA ((r4.2, (I_session.mk r4.1 p_s.has)).2.has)], 43, 0⟩]) [some 0] (.inl rfl) rfl (rl := [.tmp 8]) (.tmp .nil) rfl rfl rfl (.t _) ⟨⟨_, rfl, rfl, rfl, .mx ⟨.own rfl (by first | decide | exact List.not_mem_nil) rfl rfl, .own rfl (by first | decide | exact List.not_mem_nil) rfl rfl, .own rfl (by first | decide | exact List.not_mem_nil) rfl rfl, .t _, trivial⟩⟩, trivial⟩ ⟨rfl, rfl⟩
def m_I_session_insert_k1 (N : Nat) (p_s : I_session) (v12 : (List I_Value)) : Option (Bool × I_session) :=
  (m_I_InsertRow N p_s.table v12).bind fun r18 =>
  cond r18.2
    (some (r18.2, (I_session.mk r18.1 p_s.has)))
    (some (r18.2, p_s))
def m_I_session_insert_b1 (N : Nat) (p_words : (List ByteArray)) (i1 : Int) (v2 : (List I_Value)) : Option ((Int × (List I_Value)) ⊕ (List I_Value)) :=
  cond (decide (i1 < (p_words.length : Int)))
    ((ixI p_words i1).bind fun x22 =>
    (m_I_parseValue N x22).bind fun r24 =>
    (appM 32 v2 [r24]).bind fun xs26 =>
    (chk (i1 + (1 : Int))).bind fun n28 =>
    some (.inl (n28, xs26)))
    (some (.inr v2))
def m_I_session_insert (N : Nat) (p_s : I_session) (p_words : (List ByteArray)) : Option (Bool × I_session) :=
  (loopM (β := (List I_Value)) (fun s : Int × (List I_Value) => m_I_session_insert_b1 N p_words s.1 s.2) N ((0 : Int), ([] : List I_Value))).bind fun e =>
  m_I_session_insert_k1 N p_s e
theorem w_I_session_insert (N : Nat) (p_s : I_session) (p_words : (List ByteArray)) (r : Bool × I_session) (hh0 : m_I_session_insert N p_s p_words = some r) : FnX Tryz.prog 30 [⟨.mx [sL p_s.table.first, sL p_s.table.changes, sL p_s.table.rows, bA p_s.has], 43, 0⟩] [.op 0 0, sL p_words] (RE (bA r.1) [⟨.mx [sL r.2.table.first, sL r.2.table.changes, sL r.2.table.rows, bA r.2.has], 43, 0⟩]) := by
  unfold m_I_session_insert at hh0; refine FnX.mk Tryz.func30 rfl rfl ?_; intro s hs; refine PC.seq ?_; refine PC.rg ?_; refine PL.aT rfl rfl ?_; refine PL.nn ?_; refine PC.seq ?_; refine PC.rg ?_; refine PL.aT rfl rfl ?_; refine PL.nn ?_; (iterate 2 refine PC.seq ?_); refine PC.rg ?_; refine PL.mT rfl rfl ?_; refine PL.op rfl (Rd.lenT rfl) ?_; refine PL.mT rfl rfl ?_; refine PL.nn ?_; obtain ⟨o13, h_14, hh0⟩ := bind_some hh0; refine PC.cutE hs (fun x : (List I_Value) => [(0, .op 0 0), (5, .os 1 0 x.length)]) (fun x => [⟨.mx [sL p_s.table.first, sL p_s.table.changes, sL p_s.table.rows, bA p_s.has], 43, 0⟩, ⟨.tr (eL x), 64, 3⟩]) (fun x => m_I_session_insert_k1 N p_s x = some r) ?_ ?_
  · refine PC.block ?_; refine PC.loop hs (fun x : Nat × (Int × (List I_Value)) => [(0, .op 0 0), (5, .os 1 0 x.2.2.length), (10, sL p_words), (11, iA (p_words.length : Int)), (12, iA x.2.1)]) (fun x => [⟨.mx [sL p_s.table.first, sL p_s.table.changes, sL p_s.table.rows, bA p_s.has], 43, 0⟩, ⟨.tr (eL x.2.2), 64, 3⟩]) (fun x => loopM (β := (List I_Value)) (fun s : Int × (List I_Value) => m_I_session_insert_b1 N p_words s.1 s.2) x.1 x.2 = some o13) (fun x => x.1) (N, ((0 : Int), ([] : List I_Value))) [some 0, none] ⟨rfl, rfl, ⟨⟨_, rfl, rfl, rfl, .mx ⟨.t _, .t _, .t _, .t _, trivial⟩⟩, ow_nil _, trivial⟩, ⟨.op rfl, .osn rfl, .t _, .t _, .t _, trivial⟩⟩ h_14 ?_
    rintro ⟨f15_, i1, v2⟩ h_17
    obtain ⟨f15, y16, rfl, hh1, kk1⟩ := loopM_some h_17
    replace hh1 : m_I_session_insert_b1 N p_words i1 v2 = some y16 := hh1
    unfold m_I_session_insert_b1 at hh1; refine PC.seq ?_; refine PC.rg ?_; refine PL.op rfl (Rd.lss rfl rfl) ?_; refine PL.nn ?_; refine PC.seq ?_; rcases cond_some hh1 with ⟨h_21, hh1⟩ | ⟨h_21, hh1⟩; rotate_left
    · refine PC.cf rfl h_21 ?_; refine PC.exit ?_; (iterate 2 refine thA_e ?_); refine inA_eq rfl ?_; refine thA_n ?_; obtain rfl := some_in hh1; obtain rfl : (v2 : (List I_Value)) = o13 := kk1; exact ⟨v2, hh0, [some 0, some 1], ⟨rfl, rfl, ⟨⟨_, rfl, rfl, rfl, .mx ⟨.t _, .t _, .t _, .t _, trivial⟩⟩, ⟨_, rfl, rfl, rfl, .tr _⟩, trivial⟩, ⟨.op rfl, .os rfl, trivial⟩⟩⟩
    refine PC.ct rfl h_21 ?_; refine PC.skip ?_; refine thA_n ?_; refine PC.seq ?_; refine PC.block ?_; refine PC.seq ?_; obtain ⟨x22, h_23, hh1⟩ := bind_some hh1; refine PC.rg ?_; refine PL.op rfl (Rd.ixM rfl rfl h_23) ?_; refine PL.op rfl (Rd.elM1 rfl h_23 rfl rfl) ?_; refine PL.aT rfl rfl ?_; refine PL.nn ?_; obtain ⟨r24, h_25, hh1⟩ := bind_some hh1; obtain ⟨xs26, h_27, hh1⟩ := bind_some hh1; refine PC.rg ?_; refine PL.op rfl (Rd.moveO rfl) ?_; refine PL.mT rfl rfl ?_; refine PL.callM false [] (w_I_parseValue N x22 r24 h_25) rfl Tryz.call28 rfl ⟨.t _, trivial⟩ rfl trivial (fun h => by cases h) ?_; refine PL.ef rfl (Ef.litM (α := I_Value) [r24] [_] rfl rfl (by decide) rfl rfl rfl rfl) ?_; refine PL.nm (.os 2 0 1) [some ⟨.mx [sL p_s.table.first, sL p_s.table.changes, sL p_s.table.rows, bA p_s.has], 43, 0⟩, some ⟨.tr (eL v2), 64, 3⟩, some ⟨.tr (eL [r24]), 64, 3⟩] rfl rfl ?_; refine PL.apM hs rfl rfl rfl rfl (SrcA.ownE rfl rfl rfl) rfl rfl rfl rfl h_27 ?_; refine PL.nm (.os 3 0 xs26.length) [some ⟨.mx [sL p_s.table.first, sL p_s.table.changes, sL p_s.table.rows, bA p_s.has], 43, 0⟩, none, some ⟨.tr (eL [r24]), 64, 3⟩, some ⟨.tr (eL xs26), 64, 3⟩] rfl rfl ?_; refine PL.op rfl (Rd.asnO rfl) ?_; refine PL.nil ?_; refine inA_n ?_; refine thA_n ?_; obtain ⟨n28, h_29, hh1⟩ := bind_some hh1; refine PC.rg ?_; refine PL.op rfl (Rd.addM rfl rfl h_29) ?_; refine PL.mT rfl rfl ?_; refine PL.nil ?_; obtain rfl := some_in hh1; refine thA_n ?_; exact ⟨(f15, (n28, xs26)), Nat.lt_succ_self _, kk1, [some 0, some 3], ⟨rfl, rfl, ⟨⟨_, rfl, rfl, rfl, .mx ⟨.t _, .t _, .t _, .t _, trivial⟩⟩, ⟨_, rfl, rfl, rfl, .tr _⟩, trivial⟩, ⟨.op rfl, .os rfl, .t _, .t _, .t _, trivial⟩⟩⟩
  clear hh0
  rintro v12 hh0
  replace hh0 : m_I_session_insert_k1 N p_s v12 = some r := hh0
  unfold m_I_session_insert_k1 at hh0; refine thA_n ?_; refine PC.seq ?_; obtain ⟨r18, h_19, hh0⟩ := bind_some hh0; refine PC.rg ?_; refine PL.op rfl (Rd.moveP rfl) ?_; refine PL.op rfl (Rd.nilCheckO rfl rfl) ?_; refine PL.op rfl (Rd.fieldO rfl rfl) ?_; refine PL.op rfl (Rd.loadSub rfl rfl rfl rfl) ?_; refine PL.op rfl (Rd.moveO rfl) ?_; refine PL.frz hs 1 2 [(5, sL v12), (27, sL v12)] [some ⟨.mx [sL p_s.table.first, sL p_s.table.changes, sL p_s.table.rows, bA p_s.has], 43, 0⟩, none] rfl rfl ⟨(.own rfl (by decide) rfl rfl), (.own rfl (by decide) rfl rfl), trivial⟩ ⟨⟨rfl, .inl rfl⟩, trivial⟩ ?_; refine PL.callM false [] (w_I_InsertRow N p_s.table v12 r18 h_19) rfl Tryz.call50 rfl ⟨.aggL ⟨.t _, .t _, .t _, trivial⟩, .t _, trivial⟩ rfl trivial (fun h => by cases h) ?_; refine PL.nm (.tup [.agg [.os 2 0 r18.1.first.length, .os 3 0 r18.1.changes.length, .os 4 0 r18.1.rows.length], bA r18.2]) [some ⟨.mx [sL p_s.table.first, sL p_s.table.changes, sL p_s.table.rows, bA p_s.has], 43, 0⟩, none, some ⟨.tr (eL r18.1.first), 67, 4⟩, some ⟨.tr (eL r18.1.changes), 74, 6⟩, some ⟨.tr (eL r18.1.rows), 106, 2⟩] rfl rfl ?_; refine PL.op rfl (Rd.moveU rfl) ?_; (iterate 2 refine PL.op rfl (Rd.extract rfl rfl) ?_); refine PL.ef rfl (Ef.alloc rfl rfl) ?_; refine PL.nm (.op 5 0) [some ⟨.mx [sL p_s.table.first, sL p_s.table.changes, sL p_s.table.rows, bA p_s.has], 43, 0⟩, none, some ⟨.tr (eL r18.1.first), 67, 4⟩, some ⟨.tr (eL r18.1.changes), 74, 6⟩, some ⟨.tr (eL r18.1.rows), 106, 2⟩, some ⟨.mx [.t (.v (.slice none 0 0)), .t (.v (.slice none 0 0)), .t (.v (.slice none 0 0))], 41, 0⟩] rfl rfl ?_; refine PL.store rfl rfl rfl rfl rfl rfl rfl ?_; refine PL.nO [some ⟨.mx [sL p_s.table.first, sL p_s.table.changes, sL p_s.table.rows, bA p_s.has], 43, 0⟩, none, some ⟨.tr (eL r18.1.first), 67, 4⟩, some ⟨.tr (eL r18.1.changes), 74, 6⟩, some ⟨.tr (eL r18.1.rows), 106, 2⟩, some ⟨.mx [.os 2 0 r18.1.first.length, .os 3 0 r18.1.changes.length, .os 4 0 r18.1.rows.length], 41, 0⟩] rfl ?_; refine PL.aT rfl rfl ?_; refine PL.nn ?_; (iterate 2 refine PC.seq ?_); refine PC.rg ?_; refine PL.mT rfl rfl ?_; refine PL.nn ?_; rcases cond_some hh0 with ⟨h_20, hh0⟩ | ⟨h_20, hh0⟩; rotate_left
  · refine PC.cf rfl h_20 ?_; refine PC.skip ?_; refine thA_n ?_; refine PC.seq ?_; refine PC.rg ?_; refine PL.mT rfl rfl ?_; refine PL.aT rfl rfl ?_; refine PL.nn ?_; refine PC.ret ?_; obtain rfl := some_in hh0; exact FinA.mk (r := bA ((r18.2, p_s).1)) (bl := [⟨.mx [sL ((r18.2, p_s).2.table.first), sL ((r18.2, p_s).2.table.changes), sL ((r18.2, p_s).2.table.rows), bA ((r18.2, p_s).2.has)], 43, 0⟩]) [some 0] (.inl rfl) rfl (rl := [.tmp 4]) (.tmp .nil) rfl rfl rfl (.t _) ⟨⟨_, rfl, rfl, rfl, .mx ⟨.t _, .t _, .t _, .t _, trivial⟩⟩, trivial⟩ ⟨rfl, rfl⟩
  refine PC.ct rfl h_20 ?_; refine PC.rg ?_; refine PL.op rfl (Rd.moveP rfl) ?_; refine PL.op rfl (Rd.loadBox rfl rfl rfl) ?_; refine PL.op rfl (Rd.nilCheckO rfl rfl) ?_; refine PL.op rfl (Rd.fieldO rfl rfl) ?_; refine PL.store rfl rfl rfl rfl rfl rfl rfl ?_; refine PL.nO [some ⟨.mx [.os 2 0 r18.1.first.length, .os 3 0 r18.1.changes.length, .os 4 0 r18.1.rows.length, bA p_s.has], 43, 0⟩, none, some ⟨.tr (eL r18.1.first), 67, 4⟩, some ⟨.tr (eL r18.1.changes), 74, 6⟩, some ⟨.tr (eL r18.1.rows), 106, 2⟩, some ⟨.mx [.os 2 0 r18.1.first.length, .os 3 0 r18.1.changes.length, .os 4 0 r18.1.rows.length], 41, 0⟩] rfl ?_; refine PL.nn ?_; refine PC.seq ?_; refine PC.rg ?_; refine PL.mT rfl rfl ?_; refine PL.aT rfl rfl ?_; refine PL.nn ?_; refine PC.ret ?_; obtain rfl := some_in hh0; exact FinA.mk (r := bA ((r18.2, (I_session.mk r18.1 p_s.has)).1)) (bl := [⟨.mx [sL ((r18.2, (I_session.mk r18.1 p_s.has)).2.table.first), sL ((r18.2, (I_session.mk r18.1 p_s.has)).2.table.changes), sL ((r18.2, (I_session.mk r18.1 p_s.has)).2.table.rows), bA ((r18.2, (I_session.mk r18.1 p_s.has)).2.has)], 43, 0⟩]) [some 0] (.inl rfl) rfl (rl := [.tmp 4]) (.tmp .nil) rfl rfl rfl (.t _) ⟨⟨_, rfl, rfl, rfl, .mx ⟨.own rfl (by first | decide | exact List.not_mem_nil) rfl rfl, .own rfl (by first | decide | exact List.not_mem_nil) rfl rfl, .own rfl (by first | decide | exact List.not_mem_nil) rfl rfl, .t _, trivial⟩⟩, trivial⟩ ⟨rfl, rfl⟩
def m_I_session_rewrite (N : Nat) (p_s : I_session) (p_many : ByteArray) : Option (Bool × I_session) :=
  (m_I_parseNumber N p_many).bind fun r1 =>
  cond r1.2
    (cond p_s.has
      ((m_I_RewriteRows N p_s.table r1.1).bind fun r5 =>
      some (true, (I_session.mk r5 p_s.has)))
      (some (false, p_s)))
    (some (false, p_s))
theorem w_I_session_rewrite (N : Nat) (p_s : I_session) (p_many : ByteArray) (r : Bool × I_session) (hh0 : m_I_session_rewrite N p_s p_many = some r) : FnX Tryz.prog 31 [⟨.mx [sL p_s.table.first, sL p_s.table.changes, sL p_s.table.rows, bA p_s.has], 43, 0⟩] [.op 0 0, sA p_many] (RE (bA r.1) [⟨.mx [sL r.2.table.first, sL r.2.table.changes, sL r.2.table.rows, bA r.2.has], 43, 0⟩]) := by
  unfold m_I_session_rewrite at hh0; refine FnX.mk Tryz.func31 rfl rfl ?_; intro s hs; refine PC.seq ?_; refine PC.rg ?_; refine PL.aT rfl rfl ?_; refine PL.nn ?_; refine PC.seq ?_; obtain ⟨r1, h_2, hh0⟩ := bind_some hh0; refine PC.rg ?_; refine PL.mT rfl rfl ?_; refine PL.callM false [] (w_I_parseNumber N p_many r1 h_2) rfl Tryz.call48 rfl ⟨.t _, trivial⟩ rfl trivial (fun h => by cases h) ?_; refine PL.op rfl (Rd.moveU rfl) ?_; (iterate 2 refine PL.op rfl (Rd.extract rfl rfl) ?_); (iterate 2 refine PL.aT rfl rfl ?_); refine PL.nn ?_; (iterate 2 refine PC.seq ?_); rcases cond_some hh0 with ⟨h_3, hh0⟩ | ⟨h_3, hh0⟩; rotate_left
  · refine PC.rg ?_; refine PL.mT rfl rfl ?_; refine PL.op rfl (Rd.unnot rfl) ?_; refine PL.mT rfl rfl ?_; (iterate 5 refine PL.gf rfl rfl (not_f h_3) ?_); refine PL.op rfl (Rd.pick_t rfl (not_f h_3)) ?_; refine PL.nn ?_; refine PC.ct rfl rfl ?_; refine PC.seq ?_; refine PC.rg ?_; refine PL.aT rfl rfl ?_; refine PL.nn ?_; refine PC.ret ?_; refine thA_r ?_; obtain rfl := some_in hh0; exact FinA.mk (r := bA ((false, p_s).1)) (bl := [⟨.mx [sL ((false, p_s).2.table.first), sL ((false, p_s).2.table.changes), sL ((false, p_s).2.table.rows), bA ((false, p_s).2.has)], 43, 0⟩]) [some 0] (.inl rfl) rfl (rl := [.tmp 4]) (.tmp .nil) rfl rfl rfl (.t _) ⟨⟨_, rfl, rfl, rfl, .mx ⟨.t _, .t _, .t _, .t _, trivial⟩⟩, trivial⟩ ⟨rfl, rfl⟩
  refine PC.rg ?_; refine PL.mT rfl rfl ?_; refine PL.op rfl (Rd.unnot rfl) ?_; refine PL.mT rfl rfl ?_; refine PL.gn rfl (not_t h_3) ?_; refine PL.op rfl (Rd.moveP rfl) ?_; refine PL.gn rfl (not_t h_3) ?_; refine PL.op rfl (Rd.nilCheckO rfl rfl) ?_; refine PL.gn rfl (not_t h_3) ?_; refine PL.op rfl (Rd.fieldO rfl rfl) ?_; refine PL.gn rfl (not_t h_3) ?_; refine PL.op rfl (Rd.loadO rfl rfl rfl) ?_; refine PL.gn rfl (not_t h_3) ?_; refine PL.op rfl (Rd.unnot rfl) ?_; refine PL.op rfl (Rd.pick_f rfl (not_t h_3)) ?_; refine PL.nn ?_; rcases cond_some hh0 with ⟨h_4, hh0⟩ | ⟨h_4, hh0⟩; rotate_left
  · refine PC.ct rfl (not_f h_4) ?_; refine PC.seq ?_; refine PC.rg ?_; refine PL.aT rfl rfl ?_; refine PL.nn ?_; refine PC.ret ?_; refine thA_r ?_; obtain rfl := some_in hh0; exact FinA.mk (r := bA ((false, p_s).1)) (bl := [⟨.mx [sL ((false, p_s).2.table.first), sL ((false, p_s).2.table.changes), sL ((false, p_s).2.table.rows), bA ((false, p_s).2.has)], 43, 0⟩]) [some 0] (.inl rfl) rfl (rl := [.tmp 4]) (.tmp .nil) rfl rfl rfl (.t _) ⟨⟨_, rfl, rfl, rfl, .mx ⟨.t _, .t _, .t _, .t _, trivial⟩⟩, trivial⟩ ⟨rfl, rfl⟩
  refine PC.cf rfl (not_t h_4) ?_; refine PC.skip ?_; refine thA_n ?_; refine PC.seq ?_; obtain ⟨r5, h_6, hh0⟩ := bind_some hh0; refine PC.rg ?_; (iterate 2 refine PL.op rfl (Rd.moveP rfl) ?_); refine PL.op rfl (Rd.nilCheckO rfl rfl) ?_; refine PL.op rfl (Rd.fieldO rfl rfl) ?_; refine PL.op rfl (Rd.loadSub rfl rfl rfl rfl) ?_; refine PL.mT rfl rfl ?_; refine PL.callM false [] (w_I_RewriteRows N p_s.table r1.1 r5 h_6) rfl Tryz.call51 rfl ⟨.aggL ⟨.t _, .t _, .t _, trivial⟩, .t _, trivial⟩ rfl trivial (fun h => by cases h) ?_; refine PL.nm (.agg [.os 1 0 r5.first.length, .os 2 0 r5.changes.length, .os 3 0 r5.rows.length]) [some ⟨.mx [sL p_s.table.first, sL p_s.table.changes, sL p_s.table.rows, bA p_s.has], 43, 0⟩, some ⟨.tr (eL r5.first), 67, 4⟩, some ⟨.tr (eL r5.changes), 74, 6⟩, some ⟨.tr (eL r5.rows), 106, 2⟩] rfl rfl ?_; refine PL.op rfl (Rd.nilCheckO rfl rfl) ?_; refine PL.op rfl (Rd.fieldO rfl rfl) ?_; refine PL.store rfl rfl rfl rfl rfl rfl rfl ?_; refine PL.nO [some ⟨.mx [.os 1 0 r5.first.length, .os 2 0 r5.changes.length, .os 3 0 r5.rows.length, bA p_s.has], 43, 0⟩, some ⟨.tr (eL r5.first), 67, 4⟩, some ⟨.tr (eL r5.changes), 74, 6⟩, some ⟨.tr (eL r5.rows), 106, 2⟩] rfl ?_; refine PL.nn ?_; refine PC.seq ?_; refine PC.rg ?_; refine PL.aT rfl rfl ?_; refine PL.nn ?_; refine PC.ret ?_; obtain rfl := some_in hh0; exact FinA.mk (r := bA ((true, (I_session.mk r5 p_s.has)).1)) (bl := [⟨.mx [sL ((true, (I_session.mk r5 p_s.has)).2.table.first), sL ((true, (I_session.mk r5 p_s.has)).2.table.changes), sL ((true, (I_session.mk r5 p_s.has)).2.table.rows), bA ((true, (I_session.mk r5 p_s.has)).2.has)], 43, 0⟩]) [some 0] (.inl rfl) rfl (rl := [.tmp 4]) (.tmp .nil) rfl rfl rfl (.t _) ⟨⟨_, rfl, rfl, rfl, .mx ⟨.own rfl (by first | decide | exact List.not_mem_nil) rfl rfl, .own rfl (by first | decide | exact List.not_mem_nil) rfl rfl, .own rfl (by first | decide | exact List.not_mem_nil) rfl rfl, .t _, trivial⟩⟩, trivial⟩ ⟨rfl, rfl⟩
def m_I_Value_print (N : Nat) (p_v : I_Value) : Option (ByteArray) :=
  cond (decide (p_v.kind = (1 : Int)))
    ((m_strconv_Itoa N p_v.num).bind fun s2 =>
    some s2)
    (cond (decide (p_v.kind = (2 : Int)))
      (some p_v.text)
      (some (ByteArray.mk #[45])))
theorem w_I_Value_print (N : Nat) (p_v : I_Value) (r : ByteArray) (hh0 : m_I_Value_print N p_v = some r) : FnX Tryz.prog 53 [] [.agg [iA p_v.kind, iA p_v.num, sA p_v.text]] (RE (sA r) []) := by
  unfold m_I_Value_print at hh0; refine FnX.mk Tryz.func53 rfl rfl ?_; intro s hs; refine PC.seq ?_; refine PC.rg ?_; refine PL.ef rfl (Ef.box rfl rfl rfl) ?_; refine PL.nm (.op 0 0) [some ⟨.mx [iA p_v.kind, iA p_v.num, sA p_v.text], 64, 0⟩] rfl rfl ?_; refine PL.aT rfl rfl ?_; refine PL.nn ?_; (iterate 2 refine PC.seq ?_); refine PC.rg ?_; refine PL.op rfl (Rd.fieldO rfl rfl) ?_; refine PL.op rfl (Rd.loadO rfl rfl rfl) ?_; refine PL.nn ?_; refine PC.block ?_; refine PC.seq ?_; refine PC.rg ?_; refine PL.op rfl (Rd.eql rfl rfl) ?_; refine PL.aT rfl rfl ?_; refine PL.nn ?_; rcases cond_some hh0 with ⟨h_1, hh0⟩ | ⟨h_1, hh0⟩
  · refine PC.ct rfl h_1 ?_; refine PC.seq ?_; obtain ⟨s2, h_3, hh0⟩ := bind_some hh0; refine PC.rg ?_; refine PL.op rfl (Rd.fieldO rfl rfl) ?_; refine PL.op rfl (Rd.loadO rfl rfl rfl) ?_; refine PL.callM false [] (w_strconv_Itoa N p_v.num s2 h_3) rfl Tryz.call55 rfl ⟨.t _, trivial⟩ rfl trivial (fun h => by cases h) ?_; refine PL.aT rfl rfl ?_; refine PL.nn ?_; refine PC.ret ?_; refine inA_r ?_; refine thA_r ?_; obtain rfl := some_in hh0; exact FinA.mk (r := sA s2) (bl := []) [] (.inl rfl) rfl (rl := [.tmp 2]) (.tmp .nil) rfl rfl rfl (.t _) trivial ⟨rfl, rfl⟩
  refine PC.cf rfl h_1 ?_; refine PC.seq ?_; refine PC.rg ?_; refine PL.op rfl (Rd.eql rfl rfl) ?_; refine PL.aT rfl rfl ?_; refine PL.nn ?_; rcases cond_some hh0 with ⟨h_4, hh0⟩ | ⟨h_4, hh0⟩; rotate_left
  · refine PC.cf rfl h_4 ?_; refine PC.skip ?_; refine inA_n ?_; refine thA_n ?_; refine PC.seq ?_; refine PC.rg ?_; refine PL.aT rfl rfl ?_; refine PL.nn ?_; refine PC.ret ?_; obtain rfl := some_in hh0; exact FinA.mk (r := sA (ByteArray.mk #[45])) (bl := []) [] (.inl rfl) rfl (rl := [.tmp 2]) (.tmp .nil) rfl rfl rfl (.t _) trivial ⟨rfl, rfl⟩
  refine PC.ct rfl h_4 ?_; refine PC.seq ?_; refine PC.rg ?_; refine PL.op rfl (Rd.fieldO rfl rfl) ?_; refine PL.op rfl (Rd.loadO rfl rfl rfl) ?_; refine PL.aT rfl rfl ?_; refine PL.nn ?_; refine PC.ret ?_; refine inA_r ?_; refine thA_r ?_; obtain rfl := some_in hh0; exact FinA.mk (r := sA p_v.text) (bl := []) [] (.inl rfl) rfl (rl := [.tmp 2]) (.tmp .nil) rfl rfl rfl (.t _) trivial ⟨rfl, rfl⟩
def m_I_session_rows_k2 (N : Nat) (p_s : I_session) (v40 : (List ByteArray)) : Option (ByteArray × I_session) :=
  (m_strings_Join N v40 (ByteArray.mk #[59])).bind fun r46 =>
  some (r46, p_s)
def m_I_session_rows_k3 (N : Nat) (i3 : Int) (v4 : (List ByteArray)) (v62 : (List ByteArray)) : Option ((Int × (List ByteArray)) ⊕ (List ByteArray)) :=
  (m_strings_Join N v62 (ByteArray.mk #[32])).bind fun r68 =>
  (appM 16 v4 [r68]).bind fun xs70 =>
  (chk (i3 + (1 : Int))).bind fun n72 =>
  some (.inl (n72, xs70))
def m_I_session_rows_b3 (N : Nat) (x49 : (List I_Value)) (i51 : Int) (v52 : (List ByteArray)) : Option ((Int × (List ByteArray)) ⊕ (List ByteArray)) :=
  cond (decide (i51 < (x49.length : Int)))
    ((ixI x49 i51).bind fun x75 =>
    (m_I_Value_print N x75).bind fun r77 =>
    (appM 16 v52 [r77]).bind fun xs79 =>
    (chk (i51 + (1 : Int))).bind fun n81 =>
    some (.inl (n81, xs79)))
    (some (.inr v52))
def m_I_session_rows_b2 (N : Nat) (r1 : ((List (List I_Value)))) (i3 : Int) (v4 : (List ByteArray)) : Option ((Int × (List ByteArray)) ⊕ (List ByteArray)) :=
  cond (decide (i3 < (r1.length : Int)))
    ((ixI r1 i3).bind fun x49 =>
    (loopM (β := (List ByteArray)) (fun s : Int × (List ByteArray) => m_I_session_rows_b3 N x49 s.1 s.2) N ((0 : Int), ([] : List ByteArray))).bind fun e =>
    m_I_session_rows_k3 N i3 v4 e)
    (some (.inr v4))
def m_I_session_rows (N : Nat) (p_s : I_session) : Option (ByteArray × I_session) :=
  (m_I_TableRows N p_s.table).bind fun r1 =>
  (loopM (β := (List ByteArray)) (fun s : Int × (List ByteArray) => m_I_session_rows_b2 N r1 s.1 s.2) N ((0 : Int), ([] : List ByteArray))).bind fun e =>
  m_I_session_rows_k2 N p_s e
theorem w_I_session_rows (N : Nat) (p_s : I_session) (r : ByteArray × I_session) (hh0 : m_I_session_rows N p_s = some r) : FnX Tryz.prog 32 [⟨.mx [sL p_s.table.first, sL p_s.table.changes, sL p_s.table.rows, bA p_s.has], 43, 0⟩] [.op 0 0] (RE (sA r.1) [⟨.mx [sL r.2.table.first, sL r.2.table.changes, sL r.2.table.rows, bA r.2.has], 43, 0⟩]) := by
  unfold m_I_session_rows at hh0; refine FnX.mk Tryz.func32 rfl rfl ?_; intro s hs; refine PC.seq ?_; refine PC.rg ?_; refine PL.aT rfl rfl ?_; refine PL.nn ?_; refine PC.seq ?_; refine PC.rg ?_; refine PL.aT rfl rfl ?_; refine PL.nn ?_; (iterate 2 refine PC.seq ?_); obtain ⟨r1, h_2, hh0⟩ := bind_some hh0; refine PC.rg ?_; refine PL.op rfl (Rd.moveP rfl) ?_; refine PL.op rfl (Rd.nilCheckO rfl rfl) ?_; refine PL.op rfl (Rd.fieldO rfl rfl) ?_; refine PL.op rfl (Rd.loadSub rfl rfl rfl rfl) ?_; refine PL.callM false [] (w_I_TableRows N p_s.table r1 h_2) rfl Tryz.call52 rfl ⟨.aggL ⟨.t _, .t _, .t _, trivial⟩, trivial⟩ rfl trivial (fun h => by cases h) ?_; refine PL.nm (.os 1 0 r1.length) [some ⟨.mx [sL p_s.table.first, sL p_s.table.changes, sL p_s.table.rows, bA p_s.has], 43, 0⟩, some ⟨.tr (eL r1), 86, 1⟩] rfl rfl ?_; refine PL.op rfl (Rd.lenO rfl rfl) ?_; refine PL.mT rfl rfl ?_; refine PL.nn ?_; obtain ⟨o41, h_42, hh0⟩ := bind_some hh0; refine PC.cutE hs (fun x : (List ByteArray) => [(3, .os 1 0 x.length)]) (fun x => [⟨.mx [sL p_s.table.first, sL p_s.table.changes, sL p_s.table.rows, bA p_s.has], 43, 0⟩, ⟨.tr (eL x), 9, 1⟩]) (fun x => m_I_session_rows_k2 N p_s x = some r) ?_ ?_
  · refine PC.block ?_; refine PC.loop hs (fun x : Nat × (Int × (List ByteArray)) => [(3, .os 1 0 x.2.2.length), (13, .os 2 0 r1.length), (14, iA (r1.length : Int)), (15, iA x.2.1)]) (fun x => [⟨.mx [sL p_s.table.first, sL p_s.table.changes, sL p_s.table.rows, bA p_s.has], 43, 0⟩, ⟨.tr (eL x.2.2), 9, 1⟩, ⟨.tr (eL r1), 86, 1⟩]) (fun x => loopM (β := (List ByteArray)) (fun s : Int × (List ByteArray) => m_I_session_rows_b2 N r1 s.1 s.2) x.1 x.2 = some o41) (fun x => x.1) (N, ((0 : Int), ([] : List ByteArray))) [some 0, none, some 1] ⟨rfl, rfl, ⟨⟨_, rfl, rfl, rfl, .mx ⟨.t _, .t _, .t _, .t _, trivial⟩⟩, ow_nil _, ⟨_, rfl, rfl, rfl, .tr _⟩, trivial⟩, ⟨.osn rfl, .os rfl, .t _, .t _, trivial⟩⟩ h_42 ?_
    rintro ⟨f43_, i3, v4⟩ h_45
    obtain ⟨f43, y44, rfl, hh1, kk1⟩ := loopM_some h_45
    replace hh1 : m_I_session_rows_b2 N r1 i3 v4 = some y44 := hh1
    unfold m_I_session_rows_b2 at hh1; refine PC.seq ?_; refine PC.rg ?_; refine PL.op rfl (Rd.lss rfl rfl) ?_; refine PL.nn ?_; refine PC.seq ?_; rcases cond_some hh1 with ⟨h_48, hh1⟩ | ⟨h_48, hh1⟩; rotate_left
    · refine PC.cf rfl h_48 ?_; refine PC.exit ?_; (iterate 2 refine thA_e ?_); refine inA_eq rfl ?_; refine thA_n ?_; obtain rfl := some_in hh1; obtain rfl : (v4 : (List ByteArray)) = o41 := kk1; exact ⟨v4, hh0, [some 0, some 1], ⟨rfl, rfl, ⟨⟨_, rfl, rfl, rfl, .mx ⟨.t _, .t _, .t _, .t _, trivial⟩⟩, ⟨_, rfl, rfl, rfl, .tr _⟩, trivial⟩, ⟨.os rfl, trivial⟩⟩⟩
    refine PC.ct rfl h_48 ?_; refine PC.skip ?_; refine thA_n ?_; refine PC.seq ?_; refine PC.block ?_; refine PC.seq ?_; obtain ⟨x49, h_50, hh1⟩ := bind_some hh1; refine PC.rg ?_; refine PL.op rfl (Rd.ixOM rfl rfl rfl (ixI_lt h_50)) ?_; refine PL.op rfl (Rd.owM1 rfl rfl h_50 rfl rfl) ?_; refine PL.aT rfl rfl ?_; refine PL.nn ?_; refine PC.seq ?_; refine PC.rg ?_; refine PL.aT rfl rfl ?_; refine PL.nn ?_; (iterate 2 refine PC.seq ?_); refine PC.rg ?_; refine PL.mT rfl rfl ?_; refine PL.op rfl (Rd.lenT rfl) ?_; refine PL.mT rfl rfl ?_; refine PL.nn ?_; obtain ⟨o63, h_64, hh1⟩ := bind_some hh1; refine PC.cutE hs (fun x : (List ByteArray) => [(3, .os 1 0 v4.length), (6, .os 2 0 x.length), (13, .os 3 0 r1.length), (14, iA (r1.length : Int)), (15, iA i3)]) (fun x => [⟨.mx [sL p_s.table.first, sL p_s.table.changes, sL p_s.table.rows, bA p_s.has], 43, 0⟩, ⟨.tr (eL v4), 9, 1⟩, ⟨.tr (eL x), 9, 1⟩, ⟨.tr (eL r1), 86, 1⟩]) (fun x => m_I_session_rows_k3 N i3 v4 x = some y44) ?_ ?_
    · refine PC.block ?_; refine PC.loop hs (fun x : Nat × (Int × (List ByteArray)) => [(3, .os 1 0 v4.length), (6, .os 2 0 x.2.2.length), (13, .os 3 0 r1.length), (14, iA (r1.length : Int)), (15, iA i3), (19, sL x49), (20, iA (x49.length : Int)), (21, iA x.2.1)]) (fun x => [⟨.mx [sL p_s.table.first, sL p_s.table.changes, sL p_s.table.rows, bA p_s.has], 43, 0⟩, ⟨.tr (eL v4), 9, 1⟩, ⟨.tr (eL x.2.2), 9, 1⟩, ⟨.tr (eL r1), 86, 1⟩]) (fun x => loopM (β := (List ByteArray)) (fun s : Int × (List ByteArray) => m_I_session_rows_b3 N x49 s.1 s.2) x.1 x.2 = some o63) (fun x => x.1) (N, ((0 : Int), ([] : List ByteArray))) [some 0, some 1, none, some 2] ⟨rfl, rfl, ⟨⟨_, rfl, rfl, rfl, .mx ⟨.t _, .t _, .t _, .t _, trivial⟩⟩, ⟨_, rfl, rfl, rfl, .tr _⟩, ow_nil _, ⟨_, rfl, rfl, rfl, .tr _⟩, trivial⟩, ⟨.os rfl, .osn rfl, .os rfl, .t _, .t _, .t _, .t _, .t _, trivial⟩⟩ h_64 ?_
      rintro ⟨f65_, i51, v52⟩ h_67
      obtain ⟨f65, y66, rfl, hh2, kk2⟩ := loopM_some h_67
      replace hh2 : m_I_session_rows_b3 N x49 i51 v52 = some y66 := hh2
      unfold m_I_session_rows_b3 at hh2; refine PC.seq ?_; refine PC.rg ?_; refine PL.op rfl (Rd.lss rfl rfl) ?_; refine PL.nn ?_; refine PC.seq ?_; rcases cond_some hh2 with ⟨h_74, hh2⟩ | ⟨h_74, hh2⟩; rotate_left
      · refine PC.cf rfl h_74 ?_; refine PC.exit ?_; (iterate 2 refine thA_e ?_); refine inA_eq rfl ?_; refine thA_n ?_; obtain rfl := some_in hh2; obtain rfl : (v52 : (List ByteArray)) = o63 := kk2; exact ⟨v52, hh1, [some 0, some 1, some 2, some 3], ⟨rfl, rfl, ⟨⟨_, rfl, rfl, rfl, .mx ⟨.t _, .t _, .t _, .t _, trivial⟩⟩, ⟨_, rfl, rfl, rfl, .tr _⟩, ⟨_, rfl, rfl, rfl, .tr _⟩, ⟨_, rfl, rfl, rfl, .tr _⟩, trivial⟩, ⟨.os rfl, .os rfl, .os rfl, .t _, .t _, trivial⟩⟩⟩
      refine PC.ct rfl h_74 ?_; refine PC.skip ?_; refine thA_n ?_; refine PC.seq ?_; refine PC.block ?_; refine PC.seq ?_; obtain ⟨x75, h_76, hh2⟩ := bind_some hh2; refine PC.rg ?_; refine PL.op rfl (Rd.ixM rfl rfl h_76) ?_; refine PL.op rfl (Rd.elMR rfl h_76 rfl rfl) ?_; refine PL.ef rfl (Ef.alloc rfl rfl) ?_; refine PL.nm (.op 4 0) [some ⟨.mx [sL p_s.table.first, sL p_s.table.changes, sL p_s.table.rows, bA p_s.has], 43, 0⟩, some ⟨.tr (eL v4), 9, 1⟩, some ⟨.tr (eL v52), 9, 1⟩, some ⟨.tr (eL r1), 86, 1⟩, some ⟨.mx [iA (0 : Int), iA (0 : Int), sA ByteArray.empty], 64, 0⟩] rfl rfl ?_; refine PL.store rfl rfl rfl rfl rfl rfl rfl ?_; refine PL.nO [some ⟨.mx [sL p_s.table.first, sL p_s.table.changes, sL p_s.table.rows, bA p_s.has], 43, 0⟩, some ⟨.tr (eL v4), 9, 1⟩, some ⟨.tr (eL v52), 9, 1⟩, some ⟨.tr (eL r1), 86, 1⟩, some ⟨.mx [iA x75.kind, iA x75.num, sA x75.text], 64, 0⟩] rfl ?_; refine PL.nn ?_; obtain ⟨r77, h_78, hh2⟩ := bind_some hh2; obtain ⟨xs79, h_80, hh2⟩ := bind_some hh2; refine PC.rg ?_; refine PL.op rfl (Rd.moveO rfl) ?_; refine PL.op rfl (Rd.loadBox rfl rfl rfl) ?_; refine PL.callM false [] (w_I_Value_print N x75 r77 h_78) rfl Tryz.call53 rfl ⟨.aggL ⟨.t _, .t _, .t _, trivial⟩, trivial⟩ rfl trivial (fun h => by cases h) ?_; refine PL.ef rfl (Ef.litM (α := ByteArray) [r77] [_] rfl rfl (by decide) rfl rfl rfl rfl) ?_; refine PL.nm (.os 5 0 1) [some ⟨.mx [sL p_s.table.first, sL p_s.table.changes, sL p_s.table.rows, bA p_s.has], 43, 0⟩, some ⟨.tr (eL v4), 9, 1⟩, some ⟨.tr (eL v52), 9, 1⟩, some ⟨.tr (eL r1), 86, 1⟩, some ⟨.mx [iA x75.kind, iA x75.num, sA x75.text], 64, 0⟩, some ⟨.tr (eL [r77]), 9, 1⟩] rfl rfl ?_; refine PL.apM hs rfl rfl rfl rfl (SrcA.ownE rfl rfl rfl) rfl rfl rfl rfl h_80 ?_; refine PL.nm (.os 6 0 xs79.length) [some ⟨.mx [sL p_s.table.first, sL p_s.table.changes, sL p_s.table.rows, bA p_s.has], 43, 0⟩, some ⟨.tr (eL v4), 9, 1⟩, none, some ⟨.tr (eL r1), 86, 1⟩, some ⟨.mx [iA x75.kind, iA x75.num, sA x75.text], 64, 0⟩, some ⟨.tr (eL [r77]), 9, 1⟩, some ⟨.tr (eL xs79), 9, 1⟩] rfl rfl ?_; refine PL.op rfl (Rd.asnO rfl) ?_; refine PL.nil ?_; refine inA_n ?_; refine thA_n ?_; obtain ⟨n81, h_82, hh2⟩ := bind_some hh2; refine PC.rg ?_; refine PL.op rfl (Rd.addM rfl rfl h_82) ?_; refine PL.mT rfl rfl ?_; refine PL.nil ?_; obtain rfl := some_in hh2; refine thA_n ?_; exact ⟨(f65, (n81, xs79)), Nat.lt_succ_self _, kk2, [some 0, some 1, some 6, some 3], ⟨rfl, rfl, ⟨⟨_, rfl, rfl, rfl, .mx ⟨.t _, .t _, .t _, .t _, trivial⟩⟩, ⟨_, rfl, rfl, rfl, .tr _⟩, ⟨_, rfl, rfl, rfl, .tr _⟩, ⟨_, rfl, rfl, rfl, .tr _⟩, trivial⟩, ⟨.os rfl, .os rfl, .os rfl, .t _, .t _, .t _, .t _, .t _, trivial⟩⟩⟩
    clear hh1
    rintro v62 hh1
    replace hh1 : m_I_session_rows_k3 N i3 v4 v62 = some y44 := hh1
    unfold m_I_session_rows_k3 at hh1; refine thA_n ?_; obtain ⟨r68, h_69, hh1⟩ := bind_some hh1; obtain ⟨xs70, h_71, hh1⟩ := bind_some hh1; refine PC.rg ?_; (iterate 2 refine PL.op rfl (Rd.moveO rfl) ?_); refine PL.callM true [] (w_strings_Join N v62 (ByteArray.mk #[32]) r68 h_69) rfl Tryz.call54 rfl ⟨.own rfl (by first | decide | exact List.not_mem_nil) rfl rfl, .t _, trivial⟩ rfl trivial (fun _ => ⟨trivial, flat_nil⟩) ?_; refine PL.ef rfl (Ef.litM (α := ByteArray) [r68] [_] rfl rfl (by decide) rfl rfl rfl rfl) ?_; refine PL.nm (.os 4 0 1) [some ⟨.mx [sL p_s.table.first, sL p_s.table.changes, sL p_s.table.rows, bA p_s.has], 43, 0⟩, some ⟨.tr (eL v4), 9, 1⟩, some ⟨.tr (eL v62), 9, 1⟩, some ⟨.tr (eL r1), 86, 1⟩, some ⟨.tr (eL [r68]), 9, 1⟩] rfl rfl ?_; refine PL.apM hs rfl rfl rfl rfl (SrcA.ownE rfl rfl rfl) rfl rfl rfl rfl h_71 ?_; refine PL.nm (.os 5 0 xs70.length) [some ⟨.mx [sL p_s.table.first, sL p_s.table.changes, sL p_s.table.rows, bA p_s.has], 43, 0⟩, none, some ⟨.tr (eL v62), 9, 1⟩, some ⟨.tr (eL r1), 86, 1⟩, some ⟨.tr (eL [r68]), 9, 1⟩, some ⟨.tr (eL xs70), 9, 1⟩] rfl rfl ?_; refine PL.op rfl (Rd.asnO rfl) ?_; refine PL.nil ?_; refine inA_n ?_; refine thA_n ?_; obtain ⟨n72, h_73, hh1⟩ := bind_some hh1; refine PC.rg ?_; refine PL.op rfl (Rd.addM rfl rfl h_73) ?_; refine PL.mT rfl rfl ?_; refine PL.nil ?_; obtain rfl := some_in hh1; refine thA_n ?_; exact ⟨(f43, (n72, xs70)), Nat.lt_succ_self _, kk1, [some 0, some 5, some 3], ⟨rfl, rfl, ⟨⟨_, rfl, rfl, rfl, .mx ⟨.t _, .t _, .t _, .t _, trivial⟩⟩, ⟨_, rfl, rfl, rfl, .tr _⟩, ⟨_, rfl, rfl, rfl, .tr _⟩, trivial⟩, ⟨.os rfl, .os rfl, .t _, .t _, trivial⟩⟩⟩
  clear hh0
  rintro v40 hh0
  replace hh0 : m_I_session_rows_k2 N p_s v40 = some r := hh0
  unfold m_I_session_rows_k2 at hh0; refine thA_n ?_; refine PC.seq ?_; obtain ⟨r46, h_47, hh0⟩ := bind_some hh0; refine PC.rg ?_; refine PL.op rfl (Rd.moveO rfl) ?_; refine PL.callM true [] (w_strings_Join N v40 (ByteArray.mk #[59]) r46 h_47) rfl Tryz.call54 rfl ⟨.own rfl (by first | decide | exact List.not_mem_nil) rfl rfl, .t _, trivial⟩ rfl trivial (fun _ => ⟨trivial, flat_nil⟩) ?_; refine PL.aT rfl rfl ?_; refine PL.nn ?_; refine PC.ret ?_; obtain rfl := some_in hh0; exact FinA.mk (r := sA ((r46, p_s).1)) (bl := [⟨.mx [sL ((r46, p_s).2.table.first), sL ((r46, p_s).2.table.changes), sL ((r46, p_s).2.table.rows), bA ((r46, p_s).2.has)], 43, 0⟩]) [some 0] (.inl rfl) rfl (rl := [.tmp 2]) (.tmp .nil) rfl rfl rfl (.t _) ⟨⟨_, rfl, rfl, rfl, .mx ⟨.t _, .t _, .t _, .t _, trivial⟩⟩, trivial⟩ ⟨rfl, rfl⟩
def m_I_session_old (N : Nat) (p_s : I_session) : Option (ByteArray × I_session) :=
  cond p_s.has
    ((m_I_OldRows N p_s.table).bind fun r2 =>
    (m_strconv_Itoa N r2).bind fun s4 =>
    some (s4, p_s))
    (some ((ByteArray.mk #[110, 111]), p_s))
theorem w_I_session_old (N : Nat) (p_s : I_session) (r : ByteArray × I_session) (hh0 : m_I_session_old N p_s = some r) : FnX Tryz.prog 33 [⟨.mx [sL p_s.table.first, sL p_s.table.changes, sL p_s.table.rows, bA p_s.has], 43, 0⟩] [.op 0 0] (RE (sA r.1) [⟨.mx [sL r.2.table.first, sL r.2.table.changes, sL r.2.table.rows, bA r.2.has], 43, 0⟩]) := by
  unfold m_I_session_old at hh0; refine FnX.mk Tryz.func33 rfl rfl ?_; intro s hs; refine PC.seq ?_; refine PC.rg ?_; refine PL.aT rfl rfl ?_; refine PL.nn ?_; (iterate 2 refine PC.seq ?_); refine PC.rg ?_; refine PL.op rfl (Rd.moveP rfl) ?_; refine PL.op rfl (Rd.nilCheckO rfl rfl) ?_; refine PL.op rfl (Rd.fieldO rfl rfl) ?_; refine PL.op rfl (Rd.loadO rfl rfl rfl) ?_; refine PL.op rfl (Rd.unnot rfl) ?_; refine PL.nn ?_; rcases cond_some hh0 with ⟨h_1, hh0⟩ | ⟨h_1, hh0⟩; rotate_left
  · refine PC.ct rfl (not_f h_1) ?_; refine PC.seq ?_; refine PC.rg ?_; refine PL.aT rfl rfl ?_; refine PL.nn ?_; refine PC.ret ?_; refine thA_r ?_; obtain rfl := some_in hh0; exact FinA.mk (r := sA (((ByteArray.mk #[110, 111]), p_s).1)) (bl := [⟨.mx [sL (((ByteArray.mk #[110, 111]), p_s).2.table.first), sL (((ByteArray.mk #[110, 111]), p_s).2.table.changes), sL (((ByteArray.mk #[110, 111]), p_s).2.table.rows), bA (((ByteArray.mk #[110, 111]), p_s).2.has)], 43, 0⟩]) [some 0] (.inl rfl) rfl (rl := [.tmp 2]) (.tmp .nil) rfl rfl rfl (.t _) ⟨⟨_, rfl, rfl, rfl, .mx ⟨.t _, .t _, .t _, .t _, trivial⟩⟩, trivial⟩ ⟨rfl, rfl⟩
  refine PC.cf rfl (not_t h_1) ?_; refine PC.skip ?_; refine thA_n ?_; refine PC.seq ?_; obtain ⟨r2, h_3, hh0⟩ := bind_some hh0; obtain ⟨s4, h_5, hh0⟩ := bind_some hh0; refine PC.rg ?_; refine PL.op rfl (Rd.moveP rfl) ?_; refine PL.op rfl (Rd.nilCheckO rfl rfl) ?_; refine PL.op rfl (Rd.fieldO rfl rfl) ?_; refine PL.op rfl (Rd.loadSub rfl rfl rfl rfl) ?_; refine PL.callM false [] (w_I_OldRows N p_s.table r2 h_3) rfl Tryz.call56 rfl ⟨.aggL ⟨.t _, .t _, .t _, trivial⟩, trivial⟩ rfl trivial (fun h => by cases h) ?_; refine PL.callM false [] (w_strconv_Itoa N r2 s4 h_5) rfl Tryz.call55 rfl ⟨.t _, trivial⟩ rfl trivial (fun h => by cases h) ?_; refine PL.aT rfl rfl ?_; refine PL.nn ?_; refine PC.ret ?_; obtain rfl := some_in hh0; exact FinA.mk (r := sA ((s4, p_s).1)) (bl := [⟨.mx [sL ((s4, p_s).2.table.first), sL ((s4, p_s).2.table.changes), sL ((s4, p_s).2.table.rows), bA ((s4, p_s).2.has)], 43, 0⟩]) [some 0] (.inl rfl) rfl (rl := [.tmp 2]) (.tmp .nil) rfl rfl rfl (.t _) ⟨⟨_, rfl, rfl, rfl, .mx ⟨.t _, .t _, .t _, .t _, trivial⟩⟩, trivial⟩ ⟨rfl, rfl⟩
def m_I_session_run (N : Nat) (p_s : I_session) (p_line : ByteArray) : Option (ByteArray × I_session) :=
  (m_strings_Split N p_line (ByteArray.mk #[32])).bind fun r1 =>
  (ixI r1 (0 : Int)).bind fun x3 =>
  (V.subM r1 (1 : Int) (r1.length : Int)).bind fun xs5 =>
  cond ((x3.toList == (ByteArray.mk #[116, 97, 98, 108, 101]).toList) && decide ((1 : Int) ≤ (xs5.length : Int)))
    ((m_I_session_create N p_s xs5).bind fun r9 =>
    (m_I_answer N r9.1).bind fun r11 =>
    some (r11, r9.2))
    (cond ((x3.toList == (ByteArray.mk #[97, 100, 100]).toList) && decide ((xs5.length : Int) = (3 : Int)))
      ((ixI xs5 (1 : Int)).bind fun x15 =>
      (m_I_parseKind N x15).bind fun r17 =>
      (ixI xs5 (2 : Int)).bind fun x19 =>
      (m_I_parseValue N x19).bind fun r21 =>
      (ixI xs5 (0 : Int)).bind fun x23 =>
      (m_I_session_alter N p_s (1 : Int) x23 (I_Column.mk r17 r21)).bind fun r25 =>
      (m_I_answer N r25.1).bind fun r27 =>
      some (r27, r25.2))
      (cond ((x3.toList == (ByteArray.mk #[100, 114, 111, 112]).toList) && decide ((xs5.length : Int) = (1 : Int)))
        ((ixI xs5 (0 : Int)).bind fun x31 =>
        (m_I_session_alter N p_s (2 : Int) x31 (I_Column.mk (0 : Int) (I_Value.mk (0 : Int) (0 : Int) ByteArray.empty))).bind fun r33 =>
        (m_I_answer N r33.1).bind fun r35 =>
        some (r35, r33.2))
        (cond ((x3.toList == (ByteArray.mk #[119, 105, 100, 101, 110]).toList) && decide ((xs5.length : Int) = (1 : Int)))
          ((ixI xs5 (0 : Int)).bind fun x39 =>
          (m_I_session_alter N p_s (3 : Int) x39 (I_Column.mk (0 : Int) (I_Value.mk (0 : Int) (0 : Int) ByteArray.empty))).bind fun r41 =>
          (m_I_answer N r41.1).bind fun r43 =>
          some (r43, r41.2))
          (cond ((x3.toList == (ByteArray.mk #[105, 110, 115, 101, 114, 116]).toList) && decide ((1 : Int) ≤ (xs5.length : Int)))
            ((m_I_session_insert N p_s xs5).bind fun r47 =>
            (m_I_answer N r47.1).bind fun r49 =>
            some (r49, r47.2))
            (cond ((x3.toList == (ByteArray.mk #[114, 101, 119, 114, 105, 116, 101]).toList) && decide ((xs5.length : Int) = (1 : Int)))
              ((ixI xs5 (0 : Int)).bind fun x53 =>
              (m_I_session_rewrite N p_s x53).bind fun r55 =>
              (m_I_answer N r55.1).bind fun r57 =>
              some (r57, r55.2))
              (cond ((x3.toList == (ByteArray.mk #[114, 111, 119, 115]).toList) && decide ((xs5.length : Int) = (0 : Int)))
                ((m_I_session_rows N p_s).bind fun r61 =>
                some (r61.1, r61.2))
                (cond ((x3.toList == (ByteArray.mk #[111, 108, 100]).toList) && decide ((xs5.length : Int) = (0 : Int)))
                  ((m_I_session_old N p_s).bind fun r65 =>
                  some (r65.1, r65.2))
                  (some ((ByteArray.mk #[119, 104, 97, 116]), p_s)))))))))
theorem w_I_session_run (N : Nat) (p_s : I_session) (p_line : ByteArray) (r : ByteArray × I_session) (hh0 : m_I_session_run N p_s p_line = some r) : FnX Tryz.prog 19 [⟨.mx [sL p_s.table.first, sL p_s.table.changes, sL p_s.table.rows, bA p_s.has], 43, 0⟩] [.op 0 0, sA p_line] (RE (sA r.1) [⟨.mx [sL r.2.table.first, sL r.2.table.changes, sL r.2.table.rows, bA r.2.has], 43, 0⟩]) := by
  unfold m_I_session_run at hh0; refine FnX.mk Tryz.func19 rfl rfl ?_; intro s hs; refine PC.seq ?_; refine PC.rg ?_; refine PL.aT rfl rfl ?_; refine PL.nn ?_; refine PC.seq ?_; obtain ⟨r1, h_2, hh0⟩ := bind_some hh0; refine PC.rg ?_; refine PL.mT rfl rfl ?_; refine PL.callM false [] (w_strings_Split N p_line (ByteArray.mk #[32]) r1 h_2) rfl Tryz.call24 rfl ⟨.t _, .t _, trivial⟩ rfl trivial (fun h => by cases h) ?_; refine PL.nm (.os 1 0 r1.length) [some ⟨.mx [sL p_s.table.first, sL p_s.table.changes, sL p_s.table.rows, bA p_s.has], 43, 0⟩, some ⟨.tr (eL r1), 9, 1⟩] rfl rfl ?_; refine PL.op rfl (Rd.asnO rfl) ?_; refine PL.nn ?_; refine PC.seq ?_; obtain ⟨x3, h_4, hh0⟩ := bind_some hh0; obtain ⟨xs5, h_6, hh0⟩ := bind_some hh0; refine PC.any (id := 2) 7 (.seg [0, 1, 2, 3, 4, 5, 6] .done) [] rfl (by kernel_rfl) rfl ?_; refine PT.seg ?_; refine PR.op rfl (Rd.moveO rfl) ?_; refine PR.ixOM rfl rfl rfl rfl (ixI_lt h_4) ?_; refine PR.op rfl (Rd.owM1 rfl rfl h_4 rfl rfl) ?_; refine PR.op rfl (Rd.moveO rfl) ?_; refine PR.frz hs 1 2 [(10, sL r1), (5, sL r1), (11, sL r1), (14, sL r1)] [some ⟨.mx [sL p_s.table.first, sL p_s.table.changes, sL p_s.table.rows, bA p_s.has], 43, 0⟩, none] rfl rfl rfl ⟨(.own rfl (by decide) rfl rfl), (.own rfl (by decide) rfl rfl), (.own rfl (by decide) rfl rfl), (.own rfl (by decide) rfl rfl), trivial⟩ ⟨⟨rfl, .inl rfl⟩, trivial⟩ ?_; refine PR.op rfl (Rd.subTML rfl rfl h_6) ?_; refine PR.nm (sL xs5) [some ⟨.mx [sL p_s.table.first, sL p_s.table.changes, sL p_s.table.rows, bA p_s.has], 43, 0⟩, none] rfl rfl ?_; (iterate 2 refine PR.op rfl (Rd.asnT rfl) ?_); refine PR.nil ?_; refine PT.done ?_; refine PL.nn ?_; refine PC.seq ?_; refine PC.block ?_; refine PC.cut hs (fun _ : Unit => [(0, .op 0 0), (6, sA x3), (7, sL xs5), (16, bA ((x3.toList == (ByteArray.mk #[116, 97, 98, 108, 101]).toList) && decide ((1 : Int) ≤ (xs5.length : Int))))]) (fun _ => [⟨.mx [sL p_s.table.first, sL p_s.table.changes, sL p_s.table.rows, bA p_s.has], 43, 0⟩]) (fun _ => True) ?_ ?_
  · rcases bool_tf ((x3.toList == (ByteArray.mk #[116, 97, 98, 108, 101]).toList)) with h_7 | h_7; rotate_left
    · refine PC.rg ?_; refine PL.mT rfl rfl ?_; refine PL.op rfl (Rd.eqlS rfl rfl) ?_; refine PL.mT rfl rfl ?_; (iterate 3 refine PL.gf rfl rfl h_7 ?_); refine PL.op rfl (Rd.pick_f rfl h_7) ?_; refine PL.aT rfl rfl ?_; refine PL.nn ?_; exact ⟨(), trivial, [some 0], ⟨rfl, rfl, ⟨⟨_, rfl, rfl, rfl, .mx ⟨.t _, .t _, .t _, .t _, trivial⟩⟩, trivial⟩, ⟨.op rfl, .t _, .t _, (Sb.tB (and_f h_7)), trivial⟩⟩⟩
    refine PC.rg ?_; refine PL.mT rfl rfl ?_; refine PL.op rfl (Rd.eqlS rfl rfl) ?_; refine PL.mT rfl rfl ?_; refine PL.gn rfl h_7 ?_; refine PL.mT rfl rfl ?_; refine PL.gn rfl h_7 ?_; refine PL.op rfl (Rd.lenT rfl) ?_; refine PL.gn rfl h_7 ?_; refine PL.op rfl (Rd.geq rfl rfl) ?_; refine PL.op rfl (Rd.pick_t rfl h_7) ?_; refine PL.aT rfl rfl ?_; refine PL.nn ?_; exact ⟨(), trivial, [some 0], ⟨rfl, rfl, ⟨⟨_, rfl, rfl, rfl, .mx ⟨.t _, .t _, .t _, .t _, trivial⟩⟩, trivial⟩, ⟨.op rfl, .t _, .t _, (Sb.tB (and_t h_7)), trivial⟩⟩⟩
  rintro ⟨⟩ -
  rcases cond_some hh0 with ⟨h_8, hh0⟩ | ⟨h_8, hh0⟩
  · refine PC.ct rfl h_8 ?_; refine PC.seq ?_; obtain ⟨r9, h_10, hh0⟩ := bind_some hh0; obtain ⟨r11, h_12, hh0⟩ := bind_some hh0; refine PC.rg ?_; refine PL.op rfl (Rd.moveP rfl) ?_; refine PL.mT rfl rfl ?_; refine PL.callM false [0] (w_I_session_create N p_s xs5 r9 h_10) rfl Tryz.call26 rfl ⟨.op rfl, .t _, trivial⟩ rfl ⟨⟨_, rfl, rfl, rfl, .mx ⟨.t _, .t _, .t _, .t _, trivial⟩⟩, trivial⟩ (fun h => by cases h) ?_; refine PL.nm (bA r9.1) [some ⟨.mx [sL r9.2.table.first, sL r9.2.table.changes, sL r9.2.table.rows, bA r9.2.has], 43, 0⟩] rfl rfl ?_; refine PL.callM false [] (w_I_answer N r9.1 r11 h_12) rfl Tryz.call25 rfl ⟨.t _, trivial⟩ rfl trivial (fun h => by cases h) ?_; refine PL.aT rfl rfl ?_; refine PL.nn ?_; refine PC.ret ?_; refine inA_r ?_; refine thA_r ?_; obtain rfl := some_in hh0; exact FinA.mk (r := sA ((r11, r9.2).1)) (bl := [⟨.mx [sL ((r11, r9.2).2.table.first), sL ((r11, r9.2).2.table.changes), sL ((r11, r9.2).2.table.rows), bA ((r11, r9.2).2.has)], 43, 0⟩]) [some 0] (.inl rfl) rfl (rl := [.tmp 4]) (.tmp .nil) rfl rfl rfl (.t _) ⟨⟨_, rfl, rfl, rfl, .mx ⟨.t _, .t _, .t _, .t _, trivial⟩⟩, trivial⟩ ⟨rfl, rfl⟩
  refine PC.cf rfl h_8 ?_; refine PC.cut hs (fun _ : Unit => [(0, .op 0 0), (6, sA x3), (7, sL xs5), (28, bA ((x3.toList == (ByteArray.mk #[97, 100, 100]).toList) && decide ((xs5.length : Int) = (3 : Int))))]) (fun _ => [⟨.mx [sL p_s.table.first, sL p_s.table.changes, sL p_s.table.rows, bA p_s.has], 43, 0⟩]) (fun _ => True) ?_ ?_
  · rcases bool_tf ((x3.toList == (ByteArray.mk #[97, 100, 100]).toList)) with h_13 | h_13; rotate_left
    · refine PC.rg ?_; refine PL.mT rfl rfl ?_; refine PL.op rfl (Rd.eqlS rfl rfl) ?_; refine PL.mT rfl rfl ?_; (iterate 3 refine PL.gf rfl rfl h_13 ?_); refine PL.op rfl (Rd.pick_f rfl h_13) ?_; refine PL.aT rfl rfl ?_; refine PL.nn ?_; exact ⟨(), trivial, [some 0], ⟨rfl, rfl, ⟨⟨_, rfl, rfl, rfl, .mx ⟨.t _, .t _, .t _, .t _, trivial⟩⟩, trivial⟩, ⟨.op rfl, .t _, .t _, (Sb.tB (and_f h_13)), trivial⟩⟩⟩
    refine PC.rg ?_; refine PL.mT rfl rfl ?_; refine PL.op rfl (Rd.eqlS rfl rfl) ?_; refine PL.mT rfl rfl ?_; refine PL.gn rfl h_13 ?_; refine PL.mT rfl rfl ?_; refine PL.gn rfl h_13 ?_; refine PL.op rfl (Rd.lenT rfl) ?_; refine PL.gn rfl h_13 ?_; refine PL.op rfl (Rd.eql rfl rfl) ?_; refine PL.op rfl (Rd.pick_t rfl h_13) ?_; refine PL.aT rfl rfl ?_; refine PL.nn ?_; exact ⟨(), trivial, [some 0], ⟨rfl, rfl, ⟨⟨_, rfl, rfl, rfl, .mx ⟨.t _, .t _, .t _, .t _, trivial⟩⟩, trivial⟩, ⟨.op rfl, .t _, .t _, (Sb.tB (and_t h_13)), trivial⟩⟩⟩
  rintro ⟨⟩ -
  rcases cond_some hh0 with ⟨h_14, hh0⟩ | ⟨h_14, hh0⟩
  · refine PC.ct rfl h_14 ?_; obtain ⟨x15, h_16, hh0⟩ := bind_some hh0; obtain ⟨r17, h_18, hh0⟩ := bind_some hh0; obtain ⟨x19, h_20, hh0⟩ := bind_some hh0; obtain ⟨r21, h_22, hh0⟩ := bind_some hh0; refine PC.cut hs (fun _ : Unit => [(0, .op 0 0), (7, sL xs5), (8, .op 1 0)]) (fun _ => [⟨.mx [sL p_s.table.first, sL p_s.table.changes, sL p_s.table.rows, bA p_s.has], 43, 0⟩, ⟨.mx [iA r17, iA r21.kind, iA r21.num, sA r21.text], 67, 0⟩]) (fun _ => True) ?_ ?_
    · refine PC.any (id := 6) 10 (.seg [0, 1, 2, 4, 5, 6] (.fork (.seg [3] (.fork (.seg [7, 8, 9] .done) (.seg [9, 7, 8] .done))) (.seg [9, 3, 7, 8] .done))) [] rfl (by kernel_rfl) rfl ?_; refine PT.seg ?_; refine PR.op rfl (Rd.moveT rfl) ?_; refine PR.op rfl (Rd.ixM rfl rfl h_16) ?_; refine PR.op rfl (Rd.elM1 rfl h_16 rfl rfl) ?_; refine PR.op rfl (Rd.moveT rfl) ?_; refine PR.op rfl (Rd.ixM rfl rfl h_20) ?_; refine PR.op rfl (Rd.elM1 rfl h_20 rfl rfl) ?_; refine PR.nil ?_; refine PT.fork ?_ ?_; rotate_left
      · refine PT.seg ?_; refine PR.efX rfl rfl (Ef.alloc rfl rfl) ?_; refine PR.nm (.op 1 0) [some ⟨.mx [sL p_s.table.first, sL p_s.table.changes, sL p_s.table.rows, bA p_s.has], 43, 0⟩, some ⟨.mx [iA (0 : Int), iA (0 : Int), iA (0 : Int), sA ByteArray.empty], 67, 0⟩] rfl rfl ?_; refine PR.callM false [] (w_I_parseKind N x15 r17 h_18) rfl Tryz.call27 rfl ⟨.t _, trivial⟩ rfl trivial (fun h => by cases h) rfl ?_; refine PR.callM false [] (w_I_parseValue N x19 r21 h_22) rfl Tryz.call28 rfl ⟨.t _, trivial⟩ rfl trivial (fun h => by cases h) rfl ?_; refine PR.op rfl (Rd.build rfl rfl rfl rfl) ?_; refine PR.nil ?_; refine PT.done ?_; refine PL.store rfl rfl rfl rfl rfl rfl rfl ?_; refine PL.nO [some ⟨.mx [sL p_s.table.first, sL p_s.table.changes, sL p_s.table.rows, bA p_s.has], 43, 0⟩, some ⟨.mx [iA r17, iA r21.kind, iA r21.num, sA r21.text], 67, 0⟩] rfl ?_; refine PL.nn ?_; exact ⟨(), trivial, [some 0, some 1], ⟨rfl, rfl, ⟨⟨_, rfl, rfl, rfl, .mx ⟨.t _, .t _, .t _, .t _, trivial⟩⟩, ⟨_, rfl, rfl, rfl, .mx ⟨.t _, .t _, .t _, .t _, trivial⟩⟩, trivial⟩, ⟨.op rfl, .t _, .op rfl, trivial⟩⟩⟩
      refine PT.seg ?_; refine PR.callM false [] (w_I_parseKind N x15 r17 h_18) rfl Tryz.call27 rfl ⟨.t _, trivial⟩ rfl trivial (fun h => by cases h) rfl ?_; refine PR.nil ?_; refine PT.fork ?_ ?_
      · refine PT.seg ?_; refine PR.callM false [] (w_I_parseValue N x19 r21 h_22) rfl Tryz.call28 rfl ⟨.t _, trivial⟩ rfl trivial (fun h => by cases h) rfl ?_; refine PR.op rfl (Rd.build rfl rfl rfl rfl) ?_; refine PR.efX rfl rfl (Ef.alloc rfl rfl) ?_; refine PR.nm (.op 1 0) [some ⟨.mx [sL p_s.table.first, sL p_s.table.changes, sL p_s.table.rows, bA p_s.has], 43, 0⟩, some ⟨.mx [iA (0 : Int), iA (0 : Int), iA (0 : Int), sA ByteArray.empty], 67, 0⟩] rfl rfl ?_; refine PR.nil ?_; refine PT.done ?_; refine PL.store rfl rfl rfl rfl rfl rfl rfl ?_; refine PL.nO [some ⟨.mx [sL p_s.table.first, sL p_s.table.changes, sL p_s.table.rows, bA p_s.has], 43, 0⟩, some ⟨.mx [iA r17, iA r21.kind, iA r21.num, sA r21.text], 67, 0⟩] rfl ?_; refine PL.nn ?_; exact ⟨(), trivial, [some 0, some 1], ⟨rfl, rfl, ⟨⟨_, rfl, rfl, rfl, .mx ⟨.t _, .t _, .t _, .t _, trivial⟩⟩, ⟨_, rfl, rfl, rfl, .mx ⟨.t _, .t _, .t _, .t _, trivial⟩⟩, trivial⟩, ⟨.op rfl, .t _, .op rfl, trivial⟩⟩⟩
      refine PT.seg ?_; refine PR.efX rfl rfl (Ef.alloc rfl rfl) ?_; refine PR.nm (.op 1 0) [some ⟨.mx [sL p_s.table.first, sL p_s.table.changes, sL p_s.table.rows, bA p_s.has], 43, 0⟩, some ⟨.mx [iA (0 : Int), iA (0 : Int), iA (0 : Int), sA ByteArray.empty], 67, 0⟩] rfl rfl ?_; refine PR.callM false [] (w_I_parseValue N x19 r21 h_22) rfl Tryz.call28 rfl ⟨.t _, trivial⟩ rfl trivial (fun h => by cases h) rfl ?_; refine PR.op rfl (Rd.build rfl rfl rfl rfl) ?_; refine PR.nil ?_; refine PT.done ?_; refine PL.store rfl rfl rfl rfl rfl rfl rfl ?_; refine PL.nO [some ⟨.mx [sL p_s.table.first, sL p_s.table.changes, sL p_s.table.rows, bA p_s.has], 43, 0⟩, some ⟨.mx [iA r17, iA r21.kind, iA r21.num, sA r21.text], 67, 0⟩] rfl ?_; refine PL.nn ?_; exact ⟨(), trivial, [some 0, some 1], ⟨rfl, rfl, ⟨⟨_, rfl, rfl, rfl, .mx ⟨.t _, .t _, .t _, .t _, trivial⟩⟩, ⟨_, rfl, rfl, rfl, .mx ⟨.t _, .t _, .t _, .t _, trivial⟩⟩, trivial⟩, ⟨.op rfl, .t _, .op rfl, trivial⟩⟩⟩
    rintro ⟨⟩ -
    refine PC.seq ?_; obtain ⟨x23, h_24, hh0⟩ := bind_some hh0; obtain ⟨r25, h_26, hh0⟩ := bind_some hh0; obtain ⟨r27, h_28, hh0⟩ := bind_some hh0; refine PC.any (id := 7) 8 (.seg [0, 1, 2, 3, 4, 5, 6, 7] .done) [0] rfl (by kernel_rfl) rfl ?_; refine PT.seg ?_; refine PR.op rfl (Rd.moveP rfl) ?_; refine PR.op rfl (Rd.moveT rfl) ?_; refine PR.op rfl (Rd.ixM rfl rfl h_24) ?_; refine PR.op rfl (Rd.elM1 rfl h_24 rfl rfl) ?_; refine PR.op rfl (Rd.loadBox rfl rfl rfl) ?_; refine PR.callM false [0] (w_I_session_alter N p_s (1 : Int) x23 (I_Column.mk r17 r21) r25 h_26) rfl Tryz.call29 rfl ⟨.op rfl, .t _, .t _, .aggL ⟨.t _, .t _, .t _, .t _, trivial⟩, trivial⟩ rfl ⟨⟨_, rfl, rfl, rfl, .mx ⟨.t _, .t _, .t _, .t _, trivial⟩⟩, trivial⟩ (fun h => by cases h) rfl ?_; refine PR.nm (bA r25.1) [some ⟨.mx [sL r25.2.table.first, sL r25.2.table.changes, sL r25.2.table.rows, bA r25.2.has], 43, 0⟩, some ⟨.mx [iA r17, iA r21.kind, iA r21.num, sA r21.text], 67, 0⟩] rfl rfl ?_; refine PR.callM false [] (w_I_answer N r25.1 r27 h_28) rfl Tryz.call25 rfl ⟨.t _, trivial⟩ rfl trivial (fun h => by cases h) rfl ?_; refine PR.op rfl (Rd.asnT rfl) ?_; refine PR.nil ?_; refine PT.done ?_; refine PL.nn ?_; refine PC.ret ?_; refine inA_r ?_; refine thA_r ?_; obtain rfl := some_in hh0; exact FinA.mk (r := sA ((r27, r25.2).1)) (bl := [⟨.mx [sL ((r27, r25.2).2.table.first), sL ((r27, r25.2).2.table.changes), sL ((r27, r25.2).2.table.rows), bA ((r27, r25.2).2.has)], 43, 0⟩]) [some 0] (.inl rfl) rfl (rl := [.tmp 4]) (.tmp .nil) rfl rfl rfl (.t _) ⟨⟨_, rfl, rfl, rfl, .mx ⟨.t _, .t _, .t _, .t _, trivial⟩⟩, trivial⟩ ⟨rfl, rfl⟩
  refine PC.cf rfl h_14 ?_; refine PC.cut hs (fun _ : Unit => [(0, .op 0 0), (6, sA x3), (7, sL xs5), (52, bA ((x3.toList == (ByteArray.mk #[100, 114, 111, 112]).toList) && decide ((xs5.length : Int) = (1 : Int))))]) (fun _ => [⟨.mx [sL p_s.table.first, sL p_s.table.changes, sL p_s.table.rows, bA p_s.has], 43, 0⟩]) (fun _ => True) ?_ ?_
  · rcases bool_tf ((x3.toList == (ByteArray.mk #[100, 114, 111, 112]).toList)) with h_29 | h_29; rotate_left
    · refine PC.rg ?_; refine PL.mT rfl rfl ?_; refine PL.op rfl (Rd.eqlS rfl rfl) ?_; refine PL.mT rfl rfl ?_; (iterate 3 refine PL.gf rfl rfl h_29 ?_); refine PL.op rfl (Rd.pick_f rfl h_29) ?_; refine PL.aT rfl rfl ?_; refine PL.nn ?_; exact ⟨(), trivial, [some 0], ⟨rfl, rfl, ⟨⟨_, rfl, rfl, rfl, .mx ⟨.t _, .t _, .t _, .t _, trivial⟩⟩, trivial⟩, ⟨.op rfl, .t _, .t _, (Sb.tB (and_f h_29)), trivial⟩⟩⟩
    refine PC.rg ?_; refine PL.mT rfl rfl ?_; refine PL.op rfl (Rd.eqlS rfl rfl) ?_; refine PL.mT rfl rfl ?_; refine PL.gn rfl h_29 ?_; refine PL.mT rfl rfl ?_; refine PL.gn rfl h_29 ?_; refine PL.op rfl (Rd.lenT rfl) ?_; refine PL.gn rfl h_29 ?_; refine PL.op rfl (Rd.eql rfl rfl) ?_; refine PL.op rfl (Rd.pick_t rfl h_29) ?_; refine PL.aT rfl rfl ?_; refine PL.nn ?_; exact ⟨(), trivial, [some 0], ⟨rfl, rfl, ⟨⟨_, rfl, rfl, rfl, .mx ⟨.t _, .t _, .t _, .t _, trivial⟩⟩, trivial⟩, ⟨.op rfl, .t _, .t _, (Sb.tB (and_t h_29)), trivial⟩⟩⟩
  rintro ⟨⟩ -
  rcases cond_some hh0 with ⟨h_30, hh0⟩ | ⟨h_30, hh0⟩
  · refine PC.ct rfl h_30 ?_; refine PC.seq ?_; obtain ⟨x31, h_32, hh0⟩ := bind_some hh0; obtain ⟨r33, h_34, hh0⟩ := bind_some hh0; obtain ⟨r35, h_36, hh0⟩ := bind_some hh0; refine PC.rg ?_; refine PL.op rfl (Rd.moveP rfl) ?_; refine PL.mT rfl rfl ?_; refine PL.op rfl (Rd.ixM rfl rfl h_32) ?_; refine PL.op rfl (Rd.elM1 rfl h_32 rfl rfl) ?_; refine PL.op rfl (Rd.build rfl rfl rfl rfl) ?_; refine PL.callM false [0] (w_I_session_alter N p_s (2 : Int) x31 (I_Column.mk (0 : Int) (I_Value.mk (0 : Int) (0 : Int) ByteArray.empty)) r33 h_34) rfl Tryz.call29 rfl ⟨.op rfl, .t _, .t _, .aggL ⟨.t _, .t _, .t _, .t _, trivial⟩, trivial⟩ rfl ⟨⟨_, rfl, rfl, rfl, .mx ⟨.t _, .t _, .t _, .t _, trivial⟩⟩, trivial⟩ (fun h => by cases h) ?_; refine PL.nm (bA r33.1) [some ⟨.mx [sL r33.2.table.first, sL r33.2.table.changes, sL r33.2.table.rows, bA r33.2.has], 43, 0⟩] rfl rfl ?_; refine PL.callM false [] (w_I_answer N r33.1 r35 h_36) rfl Tryz.call25 rfl ⟨.t _, trivial⟩ rfl trivial (fun h => by cases h) ?_; refine PL.aT rfl rfl ?_; refine PL.nn ?_; refine PC.ret ?_; refine inA_r ?_; refine thA_r ?_; obtain rfl := some_in hh0; exact FinA.mk (r := sA ((r35, r33.2).1)) (bl := [⟨.mx [sL ((r35, r33.2).2.table.first), sL ((r35, r33.2).2.table.changes), sL ((r35, r33.2).2.table.rows), bA ((r35, r33.2).2.has)], 43, 0⟩]) [some 0] (.inl rfl) rfl (rl := [.tmp 4]) (.tmp .nil) rfl rfl rfl (.t _) ⟨⟨_, rfl, rfl, rfl, .mx ⟨.t _, .t _, .t _, .t _, trivial⟩⟩, trivial⟩ ⟨rfl, rfl⟩
  refine PC.cf rfl h_30 ?_; refine PC.cut hs (fun _ : Unit => [(0, .op 0 0), (6, sA x3), (7, sL xs5), (67, bA ((x3.toList == (ByteArray.mk #[119, 105, 100, 101, 110]).toList) && decide ((xs5.length : Int) = (1 : Int))))]) (fun _ => [⟨.mx [sL p_s.table.first, sL p_s.table.changes, sL p_s.table.rows, bA p_s.has], 43, 0⟩]) (fun _ => True) ?_ ?_
  · rcases bool_tf ((x3.toList == (ByteArray.mk #[119, 105, 100, 101, 110]).toList)) with h_37 | h_37; rotate_left
    · refine PC.rg ?_; refine PL.mT rfl rfl ?_; refine PL.op rfl (Rd.eqlS rfl rfl) ?_; refine PL.mT rfl rfl ?_; (iterate 3 refine PL.gf rfl rfl h_37 ?_); refine PL.op rfl (Rd.pick_f rfl h_37) ?_; refine PL.aT rfl rfl ?_; refine PL.nn ?_; exact ⟨(), trivial, [some 0], ⟨rfl, rfl, ⟨⟨_, rfl, rfl, rfl, .mx ⟨.t _, .t _, .t _, .t _, trivial⟩⟩, trivial⟩, ⟨.op rfl, .t _, .t _, (Sb.tB (and_f h_37)), trivial⟩⟩⟩
    refine PC.rg ?_; refine PL.mT rfl rfl ?_; refine PL.op rfl (Rd.eqlS rfl rfl) ?_; refine PL.mT rfl rfl ?_; refine PL.gn rfl h_37 ?_; refine PL.mT rfl rfl ?_; refine PL.gn rfl h_37 ?_; refine PL.op rfl (Rd.lenT rfl) ?_; refine PL.gn rfl h_37 ?_; refine PL.op rfl (Rd.eql rfl rfl) ?_; refine PL.op rfl (Rd.pick_t rfl h_37) ?_; refine PL.aT rfl rfl ?_; refine PL.nn ?_; exact ⟨(), trivial, [some 0], ⟨rfl, rfl, ⟨⟨_, rfl, rfl, rfl, .mx ⟨.t _, .t _, .t _, .t _, trivial⟩⟩, trivial⟩, ⟨.op rfl, .t _, .t _, (Sb.tB (and_t h_37)), trivial⟩⟩⟩
  rintro ⟨⟩ -
  rcases cond_some hh0 with ⟨h_38, hh0⟩ | ⟨h_38, hh0⟩
  · refine PC.ct rfl h_38 ?_; refine PC.seq ?_; obtain ⟨x39, h_40, hh0⟩ := bind_some hh0; obtain ⟨r41, h_42, hh0⟩ := bind_some hh0; obtain ⟨r43, h_44, hh0⟩ := bind_some hh0; refine PC.rg ?_; refine PL.op rfl (Rd.moveP rfl) ?_; refine PL.mT rfl rfl ?_; refine PL.op rfl (Rd.ixM rfl rfl h_40) ?_; refine PL.op rfl (Rd.elM1 rfl h_40 rfl rfl) ?_; refine PL.op rfl (Rd.build rfl rfl rfl rfl) ?_; refine PL.callM false [0] (w_I_session_alter N p_s (3 : Int) x39 (I_Column.mk (0 : Int) (I_Value.mk (0 : Int) (0 : Int) ByteArray.empty)) r41 h_42) rfl Tryz.call29 rfl ⟨.op rfl, .t _, .t _, .aggL ⟨.t _, .t _, .t _, .t _, trivial⟩, trivial⟩ rfl ⟨⟨_, rfl, rfl, rfl, .mx ⟨.t _, .t _, .t _, .t _, trivial⟩⟩, trivial⟩ (fun h => by cases h) ?_; refine PL.nm (bA r41.1) [some ⟨.mx [sL r41.2.table.first, sL r41.2.table.changes, sL r41.2.table.rows, bA r41.2.has], 43, 0⟩] rfl rfl ?_; refine PL.callM false [] (w_I_answer N r41.1 r43 h_44) rfl Tryz.call25 rfl ⟨.t _, trivial⟩ rfl trivial (fun h => by cases h) ?_; refine PL.aT rfl rfl ?_; refine PL.nn ?_; refine PC.ret ?_; refine inA_r ?_; refine thA_r ?_; obtain rfl := some_in hh0; exact FinA.mk (r := sA ((r43, r41.2).1)) (bl := [⟨.mx [sL ((r43, r41.2).2.table.first), sL ((r43, r41.2).2.table.changes), sL ((r43, r41.2).2.table.rows), bA ((r43, r41.2).2.has)], 43, 0⟩]) [some 0] (.inl rfl) rfl (rl := [.tmp 4]) (.tmp .nil) rfl rfl rfl (.t _) ⟨⟨_, rfl, rfl, rfl, .mx ⟨.t _, .t _, .t _, .t _, trivial⟩⟩, trivial⟩ ⟨rfl, rfl⟩
  refine PC.cf rfl h_38 ?_; refine PC.cut hs (fun _ : Unit => [(0, .op 0 0), (6, sA x3), (7, sL xs5), (82, bA ((x3.toList == (ByteArray.mk #[105, 110, 115, 101, 114, 116]).toList) && decide ((1 : Int) ≤ (xs5.length : Int))))]) (fun _ => [⟨.mx [sL p_s.table.first, sL p_s.table.changes, sL p_s.table.rows, bA p_s.has], 43, 0⟩]) (fun _ => True) ?_ ?_
  · rcases bool_tf ((x3.toList == (ByteArray.mk #[105, 110, 115, 101, 114, 116]).toList)) with h_45 | h_45; rotate_left
    · refine PC.rg ?_; refine PL.mT rfl rfl ?_; refine PL.op rfl (Rd.eqlS rfl rfl) ?_; refine PL.mT rfl rfl ?_; (iterate 3 refine PL.gf rfl rfl h_45 ?_); refine PL.op rfl (Rd.pick_f rfl h_45) ?_; refine PL.aT rfl rfl ?_; refine PL.nn ?_; exact ⟨(), trivial, [some 0], ⟨rfl, rfl, ⟨⟨_, rfl, rfl, rfl, .mx ⟨.t _, .t _, .t _, .t _, trivial⟩⟩, trivial⟩, ⟨.op rfl, .t _, .t _, (Sb.tB (and_f h_45)), trivial⟩⟩⟩
    refine PC.rg ?_; refine PL.mT rfl rfl ?_; refine PL.op rfl (Rd.eqlS rfl rfl) ?_; refine PL.mT rfl rfl ?_; refine PL.gn rfl h_45 ?_; refine PL.mT rfl rfl ?_; refine PL.gn rfl h_45 ?_; refine PL.op rfl (Rd.lenT rfl) ?_; refine PL.gn rfl h_45 ?_; refine PL.op rfl (Rd.geq rfl rfl) ?_; refine PL.op rfl (Rd.pick_t rfl h_45) ?_; refine PL.aT rfl rfl ?_; refine PL.nn ?_; exact ⟨(), trivial, [some 0], ⟨rfl, rfl, ⟨⟨_, rfl, rfl, rfl, .mx ⟨.t _, .t _, .t _, .t _, trivial⟩⟩, trivial⟩, ⟨.op rfl, .t _, .t _, (Sb.tB (and_t h_45)), trivial⟩⟩⟩
  rintro ⟨⟩ -
  rcases cond_some hh0 with ⟨h_46, hh0⟩ | ⟨h_46, hh0⟩
  · refine PC.ct rfl h_46 ?_; refine PC.seq ?_; obtain ⟨r47, h_48, hh0⟩ := bind_some hh0; obtain ⟨r49, h_50, hh0⟩ := bind_some hh0; refine PC.rg ?_; refine PL.op rfl (Rd.moveP rfl) ?_; refine PL.mT rfl rfl ?_; refine PL.callM false [0] (w_I_session_insert N p_s xs5 r47 h_48) rfl Tryz.call30 rfl ⟨.op rfl, .t _, trivial⟩ rfl ⟨⟨_, rfl, rfl, rfl, .mx ⟨.t _, .t _, .t _, .t _, trivial⟩⟩, trivial⟩ (fun h => by cases h) ?_; refine PL.nm (bA r47.1) [some ⟨.mx [sL r47.2.table.first, sL r47.2.table.changes, sL r47.2.table.rows, bA r47.2.has], 43, 0⟩] rfl rfl ?_; refine PL.callM false [] (w_I_answer N r47.1 r49 h_50) rfl Tryz.call25 rfl ⟨.t _, trivial⟩ rfl trivial (fun h => by cases h) ?_; refine PL.aT rfl rfl ?_; refine PL.nn ?_; refine PC.ret ?_; refine inA_r ?_; refine thA_r ?_; obtain rfl := some_in hh0; exact FinA.mk (r := sA ((r49, r47.2).1)) (bl := [⟨.mx [sL ((r49, r47.2).2.table.first), sL ((r49, r47.2).2.table.changes), sL ((r49, r47.2).2.table.rows), bA ((r49, r47.2).2.has)], 43, 0⟩]) [some 0] (.inl rfl) rfl (rl := [.tmp 4]) (.tmp .nil) rfl rfl rfl (.t _) ⟨⟨_, rfl, rfl, rfl, .mx ⟨.t _, .t _, .t _, .t _, trivial⟩⟩, trivial⟩ ⟨rfl, rfl⟩
  refine PC.cf rfl h_46 ?_; refine PC.cut hs (fun _ : Unit => [(0, .op 0 0), (6, sA x3), (7, sL xs5), (94, bA ((x3.toList == (ByteArray.mk #[114, 101, 119, 114, 105, 116, 101]).toList) && decide ((xs5.length : Int) = (1 : Int))))]) (fun _ => [⟨.mx [sL p_s.table.first, sL p_s.table.changes, sL p_s.table.rows, bA p_s.has], 43, 0⟩]) (fun _ => True) ?_ ?_
  · rcases bool_tf ((x3.toList == (ByteArray.mk #[114, 101, 119, 114, 105, 116, 101]).toList)) with h_51 | h_51; rotate_left
    · refine PC.rg ?_; refine PL.mT rfl rfl ?_; refine PL.op rfl (Rd.eqlS rfl rfl) ?_; refine PL.mT rfl rfl ?_; (iterate 3 refine PL.gf rfl rfl h_51 ?_); refine PL.op rfl (Rd.pick_f rfl h_51) ?_; refine PL.aT rfl rfl ?_; refine PL.nn ?_; exact ⟨(), trivial, [some 0], ⟨rfl, rfl, ⟨⟨_, rfl, rfl, rfl, .mx ⟨.t _, .t _, .t _, .t _, trivial⟩⟩, trivial⟩, ⟨.op rfl, .t _, .t _, (Sb.tB (and_f h_51)), trivial⟩⟩⟩
    refine PC.rg ?_; refine PL.mT rfl rfl ?_; refine PL.op rfl (Rd.eqlS rfl rfl) ?_; refine PL.mT rfl rfl ?_; refine PL.gn rfl h_51 ?_; refine PL.mT rfl rfl ?_; refine PL.gn rfl h_51 ?_; refine PL.op rfl (Rd.lenT rfl) ?_; refine PL.gn rfl h_51 ?_; refine PL.op rfl (Rd.eql rfl rfl) ?_; refine PL.op rfl (Rd.pick_t rfl h_51) ?_; refine PL.aT rfl rfl ?_; refine PL.nn ?_; exact ⟨(), trivial, [some 0], ⟨rfl, rfl, ⟨⟨_, rfl, rfl, rfl, .mx ⟨.t _, .t _, .t _, .t _, trivial⟩⟩, trivial⟩, ⟨.op rfl, .t _, .t _, (Sb.tB (and_t h_51)), trivial⟩⟩⟩
  rintro ⟨⟩ -
  rcases cond_some hh0 with ⟨h_52, hh0⟩ | ⟨h_52, hh0⟩
  · refine PC.ct rfl h_52 ?_; refine PC.seq ?_; obtain ⟨x53, h_54, hh0⟩ := bind_some hh0; obtain ⟨r55, h_56, hh0⟩ := bind_some hh0; obtain ⟨r57, h_58, hh0⟩ := bind_some hh0; refine PC.rg ?_; refine PL.op rfl (Rd.moveP rfl) ?_; refine PL.mT rfl rfl ?_; refine PL.op rfl (Rd.ixM rfl rfl h_54) ?_; refine PL.op rfl (Rd.elM1 rfl h_54 rfl rfl) ?_; refine PL.callM false [0] (w_I_session_rewrite N p_s x53 r55 h_56) rfl Tryz.call31 rfl ⟨.op rfl, .t _, trivial⟩ rfl ⟨⟨_, rfl, rfl, rfl, .mx ⟨.t _, .t _, .t _, .t _, trivial⟩⟩, trivial⟩ (fun h => by cases h) ?_; refine PL.nm (bA r55.1) [some ⟨.mx [sL r55.2.table.first, sL r55.2.table.changes, sL r55.2.table.rows, bA r55.2.has], 43, 0⟩] rfl rfl ?_; refine PL.callM false [] (w_I_answer N r55.1 r57 h_58) rfl Tryz.call25 rfl ⟨.t _, trivial⟩ rfl trivial (fun h => by cases h) ?_; refine PL.aT rfl rfl ?_; refine PL.nn ?_; refine PC.ret ?_; refine inA_r ?_; refine thA_r ?_; obtain rfl := some_in hh0; exact FinA.mk (r := sA ((r57, r55.2).1)) (bl := [⟨.mx [sL ((r57, r55.2).2.table.first), sL ((r57, r55.2).2.table.changes), sL ((r57, r55.2).2.table.rows), bA ((r57, r55.2).2.has)], 43, 0⟩]) [some 0] (.inl rfl) rfl (rl := [.tmp 4]) (.tmp .nil) rfl rfl rfl (.t _) ⟨⟨_, rfl, rfl, rfl, .mx ⟨.t _, .t _, .t _, .t _, trivial⟩⟩, trivial⟩ ⟨rfl, rfl⟩
  refine PC.cf rfl h_52 ?_; refine PC.cut hs (fun _ : Unit => [(0, .op 0 0), (6, sA x3), (7, sL xs5), (108, bA ((x3.toList == (ByteArray.mk #[114, 111, 119, 115]).toList) && decide ((xs5.length : Int) = (0 : Int))))]) (fun _ => [⟨.mx [sL p_s.table.first, sL p_s.table.changes, sL p_s.table.rows, bA p_s.has], 43, 0⟩]) (fun _ => True) ?_ ?_
  · rcases bool_tf ((x3.toList == (ByteArray.mk #[114, 111, 119, 115]).toList)) with h_59 | h_59; rotate_left
    · refine PC.rg ?_; refine PL.mT rfl rfl ?_; refine PL.op rfl (Rd.eqlS rfl rfl) ?_; refine PL.mT rfl rfl ?_; (iterate 3 refine PL.gf rfl rfl h_59 ?_); refine PL.op rfl (Rd.pick_f rfl h_59) ?_; refine PL.aT rfl rfl ?_; refine PL.nn ?_; exact ⟨(), trivial, [some 0], ⟨rfl, rfl, ⟨⟨_, rfl, rfl, rfl, .mx ⟨.t _, .t _, .t _, .t _, trivial⟩⟩, trivial⟩, ⟨.op rfl, .t _, .t _, (Sb.tB (and_f h_59)), trivial⟩⟩⟩
    refine PC.rg ?_; refine PL.mT rfl rfl ?_; refine PL.op rfl (Rd.eqlS rfl rfl) ?_; refine PL.mT rfl rfl ?_; refine PL.gn rfl h_59 ?_; refine PL.mT rfl rfl ?_; refine PL.gn rfl h_59 ?_; refine PL.op rfl (Rd.lenT rfl) ?_; refine PL.gn rfl h_59 ?_; refine PL.op rfl (Rd.eql rfl rfl) ?_; refine PL.op rfl (Rd.pick_t rfl h_59) ?_; refine PL.aT rfl rfl ?_; refine PL.nn ?_; exact ⟨(), trivial, [some 0], ⟨rfl, rfl, ⟨⟨_, rfl, rfl, rfl, .mx ⟨.t _, .t _, .t _, .t _, trivial⟩⟩, trivial⟩, ⟨.op rfl, .t _, .t _, (Sb.tB (and_t h_59)), trivial⟩⟩⟩
  rintro ⟨⟩ -
  rcases cond_some hh0 with ⟨h_60, hh0⟩ | ⟨h_60, hh0⟩
  · refine PC.ct rfl h_60 ?_; refine PC.seq ?_; obtain ⟨r61, h_62, hh0⟩ := bind_some hh0; refine PC.rg ?_; refine PL.op rfl (Rd.moveP rfl) ?_; refine PL.callM false [0] (w_I_session_rows N p_s r61 h_62) rfl Tryz.call32 rfl ⟨.op rfl, trivial⟩ rfl ⟨⟨_, rfl, rfl, rfl, .mx ⟨.t _, .t _, .t _, .t _, trivial⟩⟩, trivial⟩ (fun h => by cases h) ?_; refine PL.nm (sA r61.1) [some ⟨.mx [sL r61.2.table.first, sL r61.2.table.changes, sL r61.2.table.rows, bA r61.2.has], 43, 0⟩] rfl rfl ?_; refine PL.aT rfl rfl ?_; refine PL.nn ?_; refine PC.ret ?_; refine inA_r ?_; refine thA_r ?_; obtain rfl := some_in hh0; exact FinA.mk (r := sA ((r61.1, r61.2).1)) (bl := [⟨.mx [sL ((r61.1, r61.2).2.table.first), sL ((r61.1, r61.2).2.table.changes), sL ((r61.1, r61.2).2.table.rows), bA ((r61.1, r61.2).2.has)], 43, 0⟩]) [some 0] (.inl rfl) rfl (rl := [.tmp 4]) (.tmp .nil) rfl rfl rfl (.t _) ⟨⟨_, rfl, rfl, rfl, .mx ⟨.t _, .t _, .t _, .t _, trivial⟩⟩, trivial⟩ ⟨rfl, rfl⟩
  refine PC.cf rfl h_60 ?_; refine PC.cut hs (fun _ : Unit => [(0, .op 0 0), (118, bA ((x3.toList == (ByteArray.mk #[111, 108, 100]).toList) && decide ((xs5.length : Int) = (0 : Int))))]) (fun _ => [⟨.mx [sL p_s.table.first, sL p_s.table.changes, sL p_s.table.rows, bA p_s.has], 43, 0⟩]) (fun _ => True) ?_ ?_
  · rcases bool_tf ((x3.toList == (ByteArray.mk #[111, 108, 100]).toList)) with h_63 | h_63; rotate_left
    · refine PC.rg ?_; refine PL.mT rfl rfl ?_; refine PL.op rfl (Rd.eqlS rfl rfl) ?_; refine PL.mT rfl rfl ?_; (iterate 3 refine PL.gf rfl rfl h_63 ?_); refine PL.op rfl (Rd.pick_f rfl h_63) ?_; refine PL.aT rfl rfl ?_; refine PL.nn ?_; exact ⟨(), trivial, [some 0], ⟨rfl, rfl, ⟨⟨_, rfl, rfl, rfl, .mx ⟨.t _, .t _, .t _, .t _, trivial⟩⟩, trivial⟩, ⟨.op rfl, (Sb.tB (and_f h_63)), trivial⟩⟩⟩
    refine PC.rg ?_; refine PL.mT rfl rfl ?_; refine PL.op rfl (Rd.eqlS rfl rfl) ?_; refine PL.mT rfl rfl ?_; refine PL.gn rfl h_63 ?_; refine PL.mT rfl rfl ?_; refine PL.gn rfl h_63 ?_; refine PL.op rfl (Rd.lenT rfl) ?_; refine PL.gn rfl h_63 ?_; refine PL.op rfl (Rd.eql rfl rfl) ?_; refine PL.op rfl (Rd.pick_t rfl h_63) ?_; refine PL.aT rfl rfl ?_; refine PL.nn ?_; exact ⟨(), trivial, [some 0], ⟨rfl, rfl, ⟨⟨_, rfl, rfl, rfl, .mx ⟨.t _, .t _, .t _, .t _, trivial⟩⟩, trivial⟩, ⟨.op rfl, (Sb.tB (and_t h_63)), trivial⟩⟩⟩
  rintro ⟨⟩ -
  rcases cond_some hh0 with ⟨h_64, hh0⟩ | ⟨h_64, hh0⟩; rotate_left
  · refine PC.cf rfl h_64 ?_; refine PC.skip ?_; refine inA_n ?_; refine thA_n ?_; refine PC.seq ?_; refine PC.rg ?_; refine PL.aT rfl rfl ?_; refine PL.nn ?_; refine PC.ret ?_; obtain rfl := some_in hh0; exact FinA.mk (r := sA (((ByteArray.mk #[119, 104, 97, 116]), p_s).1)) (bl := [⟨.mx [sL (((ByteArray.mk #[119, 104, 97, 116]), p_s).2.table.first), sL (((ByteArray.mk #[119, 104, 97, 116]), p_s).2.table.changes), sL (((ByteArray.mk #[119, 104, 97, 116]), p_s).2.table.rows), bA (((ByteArray.mk #[119, 104, 97, 116]), p_s).2.has)], 43, 0⟩]) [some 0] (.inl rfl) rfl (rl := [.tmp 4]) (.tmp .nil) rfl rfl rfl (.t _) ⟨⟨_, rfl, rfl, rfl, .mx ⟨.t _, .t _, .t _, .t _, trivial⟩⟩, trivial⟩ ⟨rfl, rfl⟩
  refine PC.ct rfl h_64 ?_; refine PC.seq ?_; obtain ⟨r65, h_66, hh0⟩ := bind_some hh0; refine PC.rg ?_; refine PL.op rfl (Rd.moveP rfl) ?_; refine PL.callM false [0] (w_I_session_old N p_s r65 h_66) rfl Tryz.call33 rfl ⟨.op rfl, trivial⟩ rfl ⟨⟨_, rfl, rfl, rfl, .mx ⟨.t _, .t _, .t _, .t _, trivial⟩⟩, trivial⟩ (fun h => by cases h) ?_; refine PL.nm (sA r65.1) [some ⟨.mx [sL r65.2.table.first, sL r65.2.table.changes, sL r65.2.table.rows, bA r65.2.has], 43, 0⟩] rfl rfl ?_; refine PL.aT rfl rfl ?_; refine PL.nn ?_; refine PC.ret ?_; refine inA_r ?_; refine thA_r ?_; obtain rfl := some_in hh0; exact FinA.mk (r := sA ((r65.1, r65.2).1)) (bl := [⟨.mx [sL ((r65.1, r65.2).2.table.first), sL ((r65.1, r65.2).2.table.changes), sL ((r65.1, r65.2).2.table.rows), bA ((r65.1, r65.2).2.has)], 43, 0⟩]) [some 0] (.inl rfl) rfl (rl := [.tmp 4]) (.tmp .nil) rfl rfl rfl (.t _) ⟨⟨_, rfl, rfl, rfl, .mx ⟨.t _, .t _, .t _, .t _, trivial⟩⟩, trivial⟩ ⟨rfl, rfl⟩
end V
end Go.Proofs.YtemmcidmcojjjaaGreatDoor
