/- What the rows need, part 6. No condition. -/
import Derived.Shelf.Sort.Plain
import Derived.Shelf.Slices.In.SortNone
import Derived.Test.YtkjnnifnmoekjaaGreatDoorProg
import Derived.Test.YtkjnnifnmoekjaaGreatDoorQIcE
namespace Go.Proofs.YtkjnnifnmoekjaaGreatDoor
namespace V
set_option linter.unusedVariables false
set_option linter.unusedSimpArgs false
set_option maxHeartbeats 1000000
/-- Format i of a chain. -/
def fA (f : List I_Column) (l : List I_Change) (i : Nat) : List I_Column := (l.take i).foldl chF f
theorem fA_succ (f : List I_Column) {l : List I_Change} {i : Nat} (h : i < l.length) : fA f l (i + 1) = chF (fA f l i) l[i] := by
  unfold fA; rw [take_succ1 h, List.foldl_append]; rfl
/-- All changes are possible. -/
def gC (f : List I_Column) (l : List I_Change) : Prop := ∀ i (h : i < l.length), poss (fA f l i) l[i]
noncomputable instance (f : List I_Column) (l : List I_Change) : Decidable (gC f l) := Classical.propDecidable _
/-- A chain of formats. -/
def cO (f : List I_Column) (l : List I_Change) : Prop := vF f ∧ l.length ≤ 8 ∧ gC f l
noncomputable instance (f : List I_Column) (l : List I_Change) : Decidable (cO f l) := Classical.propDecidable _
/-- The formats of a chain. -/
def chs (f : List I_Column) (l : List I_Change) : List (List I_Column) := (List.range (l.length + 1)).map (fA f l)
theorem chs_len (f : List I_Column) (l : List I_Change) : (chs f l).length = l.length + 1 := by unfold chs; simp
theorem chs_get {f : List I_Column} {l : List I_Change} {i : Nat} (h : i < (chs f l).length) : (chs f l)[i] = fA f l i := by show ((List.range (l.length + 1)).map (fA f l))[i]'(by simpa [chs] using h) = _; simp
theorem chs_ix {f : List I_Column} {l : List I_Change} {i : Int} {n : Nat} (h : i = n) (hn : n ≤ l.length) : ixI (chs f l) i = some (fA f l n) := by
  rw [ixI_eq h (by rw [chs_len]; omega), chs_get]
/-- Texts of changes are not too long. -/
def bCs (l : List I_Change) : Prop := l.length ≤ 5000000 ∧ ∀ c ∈ l, c.column.default.text.size ≤ 5000000
/-- A row that is valid. -/
def vRow (r : List I_Value) : Prop := r.length ≤ 5 ∧ ∀ i (h : i < r.length), vV r[i]
noncomputable instance (r : List I_Value) : Decidable (vRow r) := Classical.propDecidable _
/-- A row is not too large. -/
def bR (r : List I_Value) : Prop := r.length ≤ 5000000 ∧ ∀ v ∈ r, v.text.size ≤ 5000000
theorem fit_bR {f : List I_Column} {r : List I_Value} (h : fitP f r) (hl : f.length ≤ 5000000) : bR r := ⟨by have := h.1; omega, fun v hv => by
  obtain ⟨i, hi, rfl⟩ := List.mem_iff_getElem.1 hv
  have := vV_size (h.2 i hi (by have := h.1; omega)).1; omega⟩
theorem len_chF {f : List I_Column} {c : I_Change} (h : f.length ≤ 5000000) (hp : poss f c) : (chF f c).length ≤ 5000000 := by
  unfold chF
  split
  · rcases hp with e | e | ⟨e1, e2, e3, e4⟩
    · rw [List.length_insertIdx]; split <;> omega
    · omega
    · omega
  · split
    · rw [List.length_eraseIdx]; split <;> omega
    · rw [List.length_modify]; exact h
theorem vF_fA {f : List I_Column} {l : List I_Change} (h : vF f) : ∀ (i : Nat), i ≤ l.length → (∀ k (h : k < l.length), k < i → poss (fA f l k) l[k]) → vF (fA f l i)
  | 0, _, _ => h
  | i + 1, hi, hg => by
    rw [fA_succ f (by omega)]
    exact vF_chF (vF_fA h i (by omega) fun k hk hki => hg k hk (by omega)) (hg i (by omega) (by omega))
theorem bN_fA {f : List I_Column} {l : List I_Change} (h : bN f) (hl : f.length ≤ 5000000) : ∀ (i : Nat), i ≤ l.length → (∀ k (h : k < l.length), k < i → poss (fA f l k) l[k]) → bN (fA f l i) ∧ (fA f l i).length ≤ 5000000
  | 0, _, _ => ⟨h, hl⟩
  | i + 1, hi, hg => by
    rw [fA_succ f (by omega)]
    have h1 := bN_fA h hl i (by omega) fun k hk hki => hg k hk (by omega)
    have h2 := hg i (by omega) (by omega)
    exact ⟨bN_chF h1.1 h2, len_chF h1.2 h2⟩
theorem cO_fA {f : List I_Column} {l : List I_Change} (h : cO f l) {i : Nat} (hi : i ≤ l.length) : vF (fA f l i) := vF_fA h.1 i hi fun k hk _ => h.2.2 k hk
theorem ext_fA {f : List I_Column} {l : List I_Change} {i : Nat} (h : i < l.length) : (List.range (i + 1 + 1)).map (fA f l) = (List.range (i + 1)).map (fA f l) ++ [chF (fA f l i) l[i]] := by
  rw [List.range_succ (n := i + 1), List.map_append, ← fA_succ f h]; rfl
theorem rng_ix {f : List I_Column} {l : List I_Change} {i m : Nat} (h : i ≤ m) : ixI ((List.range (m + 1)).map (fA f l)) (i : Int) = some (fA f l i) := by
  rw [ixI_nat (by simp; omega)]; simp
/-- A row moved from format a to format i. -/
def mA (r : List I_Value) (l : List I_Change) (a i : Nat) : List I_Value := ((l.take i).drop a).foldl mv r
theorem mA_self (r : List I_Value) (l : List I_Change) (a : Nat) : mA r l a a = r := by
  unfold mA; rw [List.drop_eq_nil_of_le (by rw [List.length_take]; omega)]; rfl
theorem mA_succ (r : List I_Value) {l : List I_Change} {a i : Nat} (ha : a ≤ i) (h : i < l.length) : mA r l a (i + 1) = mv (mA r l a i) l[i] := by
  unfold mA; rw [take_succ1 h, List.drop_append_of_le_length (by rw [List.length_take]; omega), List.foldl_append]; rfl
theorem fit_mA {f : List I_Column} {l : List I_Change} {r : List I_Value} {a : Nat} (hg : gC f l) (h : fitP (fA f l a) r) : ∀ (i : Nat), a ≤ i → i ≤ l.length → fitP (fA f l i) (mA r l a i)
  | i, ha, hi => by
    rcases Nat.lt_or_eq_of_le ha with hlt | rfl
    · obtain ⟨i, rfl⟩ : ∃ j, i = j + 1 := ⟨i - 1, by omega⟩
      rw [fA_succ f (by omega), mA_succ r (by omega) (by omega)]
      exact fit_mv (fit_mA hg h i (by omega) (by omega)) (hg i (by omega))
    · rw [mA_self]; exact h
section
variable {N : Nat} (hN : 100000000 ≤ N)
include hN
omit hN in
theorem copyS {g : List I_Column} (hg : g.length ≤ 5000000) : m_S_copyColumns N g = some g := by
  unfold m_S_copyColumns
  rw [appM0 (by omega)]; rfl
theorem formatsS {f : List I_Column} {l : List I_Change} (hl : f.length ≤ 5000000) (hb : bN f) (hc : bCs l) : m_S_formats N f l = some (if gC f l then (chs f l, true) else ([], false)) := by
  have hcl := hc.1
  refine ok.val ?_
  unfold m_S_formats
  refine ok.eq (copyS hl) (ok.call (P := fun o => (o = .inl (chs f l) ∧ gC f l) ∨ (o = .inr ([], false) ∧ ¬ gC f l)) (ok.each l.length (fun i s => s = ((i : Int), (List.range (i + 1)).map (fA f l)) ∧ ∀ k (h : k < l.length), k < i → poss (fA f l k) l[k]) _ ?_ ?_ N 0 _ (Nat.zero_le _) ⟨rfl, fun k h hk => by omega⟩ (by omega)) ?_)
  · rintro i s hi ⟨rfl, hg⟩
    have hf := bN_fA hb hl i (by omega) hg
    show ok (m_S_formats_b1 N l (i : Int) _) _
    unfold m_S_formats_b1
    refine ok.ift (by omega) (ok.eq (rng_ix (Nat.le_refl _)) (ok.eq (ixI_nat hi) (ok.eq (chFS hN hf.2 hf.1 (hc.2 _ (List.getElem_mem _))) ?_)))
    by_cases hp : poss (fA f l i) l[i]
    · rw [if_pos hp]
      refine ok.bt rfl (ok.app (by simp; omega) (ok.chk (by omega) (ok.some ⟨?_, fun k hk hki => ?_⟩)))
      · rw [ext_fA hi]; simp
      · rcases Nat.lt_succ_iff_lt_or_eq.1 hki with h | rfl
        · exact hg k hk h
        · exact hp
    · rw [if_neg hp]
      exact ok.bf rfl (ok.some (.inr ⟨rfl, fun h => hp (h i hi)⟩))
  · rintro s ⟨rfl, hg⟩
    show ok (m_S_formats_b1 N l _ _) _
    unfold m_S_formats_b1
    exact ok.iff (by omega) (ok.some (.inl ⟨rfl, fun k hk => hg k hk hk⟩))
  · rintro o (⟨rfl, h⟩ | ⟨rfl, h⟩)
    · rw [if_pos h]; exact ok.some rfl
    · rw [if_neg h]; exact ok.some rfl
theorem chainI {f : List I_Column} {l : List I_Change} (hb : bS f) (hc : bCs l) : m_I_ChainOf N f l = some (if cO f l then (chs f l, true) else ([], false)) := by
  have hcl := hc.1
  have hl := hb.1
  refine ok.val ?_
  unfold m_I_ChainOf
  refine ok.eq (vFI hN hb) (ok.ite (fun hv => ok.ite (fun h8 => ok.some ?_) fun h8 => ?_) fun hv => ok.some ?_)
  · rw [if_neg fun e : cO f l => by have := e.2.1; omega]
  · refine ok.eq (show m_slices_Clone_I_Column N f = some f from appM0 (by omega)) (ok.call (P := fun o => (o = .inl (chs f l) ∧ gC f l) ∨ (o = .inr ([], false) ∧ ¬ gC f l)) (ok.each l.length (fun i s => s = ((i : Int), (List.range (i + 1)).map (fA f l)) ∧ ∀ k (h : k < l.length), k < i → poss (fA f l k) l[k]) _ ?_ ?_ N 0 _ (Nat.zero_le _) ⟨rfl, fun k h hk => by omega⟩ (by omega)) ?_)
    · rintro i s hi ⟨rfl, hg⟩
      have hf := vF_fA hv i (by omega) hg
      show ok (m_I_ChainOf_b1 N l (i : Int) _) _
      unfold m_I_ChainOf_b1
      refine ok.ift (by omega) (ok.eq (ixI_nat hi) (ok.eq (rng_ix (Nat.le_refl _)) (ok.eq (chFI hN (vF_bS hf) (hc.2 _ (List.getElem_mem _))) ?_)))
      by_cases hp : poss (fA f l i) l[i]
      · rw [if_pos ⟨hf, hp⟩]
        refine ok.bt rfl (ok.app (by simp; omega) (ok.chk (by omega) (ok.some ⟨?_, fun k hk hki => ?_⟩)))
        · rw [ext_fA hi]; simp
        · rcases Nat.lt_succ_iff_lt_or_eq.1 hki with h | rfl
          · exact hg k hk h
          · exact hp
      · rw [if_neg fun e => hp e.2]
        exact ok.bf rfl (ok.some (.inr ⟨rfl, fun h => hp (h i hi)⟩))
    · rintro s ⟨rfl, hg⟩
      show ok (m_I_ChainOf_b1 N l _ _) _
      unfold m_I_ChainOf_b1
      exact ok.iff (by omega) (ok.some (.inl ⟨rfl, fun k hk => hg k hk hk⟩))
    · rintro o (⟨rfl, h⟩ | ⟨rfl, h⟩)
      · rw [if_pos (show cO f l from ⟨hv, by omega, h⟩)]; exact ok.some rfl
      · rw [if_neg fun e : cO f l => h e.2.2]; exact ok.some rfl
  · rw [if_neg fun e : cO f l => hv e.1]
theorem vchainS {f : List I_Column} {l : List I_Change} (hb : bS f) (hc : bCs l) : m_S_validChain N f l = some (decide (cO f l)) := by
  refine bool_eq ?_
  unfold m_S_validChain
  refine ok.eq (vFS hN hb) (ok.ite (fun hv => ok.ite (fun h8 => ok.some ?_) fun h8 => ok.eq (formatsS hN hb.1 (vF_bN hv) hc) (ok.some ?_)) fun hv => ok.some ?_)
  · exact ⟨fun e => (by cases e), fun e => by have := e.2.1; omega⟩
  · by_cases hg : gC f l
    · rw [if_pos hg]; exact ⟨fun _ => ⟨hv, by omega, hg⟩, fun _ => rfl⟩
    · rw [if_neg hg]; exact ⟨fun e => (by cases e), fun e => (hg e.2.2).elim⟩
  · exact ⟨fun e => (by cases e), fun e => (hv e.1).elim⟩
theorem fitI {f : List I_Column} {r : List I_Value} (hb : bS f) (hr : bR r) : m_I_RowFits N f r = some (decide (vF f ∧ fitP f r)) := by
  have hrl := hr.1
  refine bool_eq ?_
  unfold m_I_RowFits fitP
  refine ok.eq (vFI hN hb) (ok.ite (fun hv => ok.ite (fun hl => ?_) fun hl => ok.some ⟨fun e => (by cases e), fun e => by have := e.2.1; omega⟩) fun hv => ok.some ⟨fun e => (by cases e), fun e => (hv e.1).elim⟩)
  refine ok.call (all_ok (n := r.length) 0 (fun i => ∀ (h : i < r.length) (h' : i < f.length), vV r[i] ∧ (r[i].kind = 0 ∨ r[i].kind = f[i].kind)) (by omega) (fun i hi _ => ?_) ?_) ?_
  · rw [Int.add_zero]
    have hi' : i < f.length := by omega
    show ok (m_I_RowFits_b1 N f r (i : Int)) _
    unfold m_I_RowFits_b1
    refine ok.ift (by omega) (ok.eq (ixI_nat hi) (ok.eq (vVI hN (hr.2 _ (List.getElem_mem _))) (ok.ite (fun hc => ok.ite (fun k0 => ok.chk (by omega) (ok.some (.inl ⟨rfl, fun _ _ => ⟨hc, .inl k0⟩⟩))) fun k0 => ok.eq (ixI_nat hi') (ok.ite (fun k1 => ok.chk (by omega) (ok.some (.inl ⟨rfl, fun _ _ => ⟨hc, .inr k1⟩⟩))) fun k1 => ok.some (.inr ⟨rfl, fun e => ?_⟩))) fun hc => ok.some (.inr ⟨rfl, fun e => hc (e hi hi').1⟩))))
    rcases (e hi hi').2 with e | e
    · exact k0 e
    · exact k1 e
  · rw [Int.add_zero]
    show m_I_RowFits_b1 N f r _ = _
    unfold m_I_RowFits_b1
    rw [decide_eq_false (by omega)]; rfl
  · rintro o (⟨rfl, hh⟩ | ⟨rfl, hh⟩)
    · exact ok.some ⟨fun _ => ⟨hv, by omega, fun i hi => hh i hi hi⟩, fun _ => rfl⟩
    · exact ok.some ⟨fun e => (by cases e), fun e => (hh fun k hk h => e.2.2 k h).elim⟩
theorem vrowS {r : List I_Value} (hr : bR r) : m_S_validRow N r = some (decide (vRow r)) := by
  have hrl := hr.1
  refine bool_eq ?_
  unfold m_S_validRow vRow
  refine ok.call (all_ok (n := r.length) 0 (fun i => ∀ (h : i < r.length), vV r[i]) (by omega) (fun i hi _ => ?_) ?_) ?_
  · rw [Int.add_zero]
    show ok (m_S_validRow_b1 N r (i : Int)) _
    unfold m_S_validRow_b1
    refine ok.ift (by omega) (ok.eq (ixI_nat hi) (ok.eq (vVS hN (hr.2 _ (List.getElem_mem _))) (ok.ite (fun hc => ok.chk (by omega) (ok.some (.inl ⟨rfl, fun _ => hc⟩))) fun hc => ok.some (.inr ⟨rfl, fun e => hc (e hi)⟩))))
  · rw [Int.add_zero]
    show m_S_validRow_b1 N r _ = _
    unfold m_S_validRow_b1
    rw [decide_eq_false (by omega)]; rfl
  · rintro o (⟨rfl, hh⟩ | ⟨rfl, hh⟩)
    · refine ok.some ?_
      rw [decide_eq_true_eq]
      exact ⟨fun e => ⟨by omega, fun i hi => hh i hi hi⟩, fun e => by have := e.1; omega⟩
    · exact ok.some ⟨fun e => (by cases e), fun e => (hh fun k hk h => e.2 k h).elim⟩
theorem fitS {f : List I_Column} {r : List I_Value} (hr : bR r) (hf : f.length ≤ 5) : m_S_fits N f r = some (decide (fitP f r)) := by
  have hrl := hr.1
  refine bool_eq ?_
  unfold m_S_fits
  refine ok.ite (fun hl => ?_) fun hl => ok.some ⟨fun e => (by cases e), fun e => by have := e.1; omega⟩
  refine ok.eq (vrowS hN hr) (ok.ite (fun hv => ?_) fun hv => ok.some ⟨fun e => (by cases e), fun e => (hv ⟨by omega, fun i hi => (e.2 i hi (by omega)).1⟩).elim⟩)
  unfold fitP
  refine ok.call (all_ok (n := r.length) 0 (fun i => ∀ (h : i < r.length) (h' : i < f.length), vV r[i] ∧ (r[i].kind = 0 ∨ r[i].kind = f[i].kind)) (by omega) (fun i hi _ => ?_) ?_) ?_
  · rw [Int.add_zero]
    have hi' : i < f.length := by omega
    have hc := hv.2 i hi
    show ok (m_S_fits_b1 N f r (i : Int)) _
    unfold m_S_fits_b1
    refine ok.ift (by omega) (ok.eq (ixI_nat hi) (ok.ite (fun k0 => ok.chk (by omega) (ok.some (.inl ⟨rfl, fun _ _ => ⟨hc, .inl k0⟩⟩))) fun k0 => ok.eq (ixI_nat hi) (ok.eq (ixI_nat hi') (ok.ite (fun k1 => ok.chk (by omega) (ok.some (.inl ⟨rfl, fun _ _ => ⟨hc, .inr k1⟩⟩))) fun k1 => ok.some (.inr ⟨rfl, fun e => ?_⟩)))))
    rcases (e hi hi').2 with e | e
    · exact k0 e
    · exact k1 e
  · rw [Int.add_zero]
    show m_S_fits_b1 N f r _ = _
    unfold m_S_fits_b1
    rw [decide_eq_false (by omega)]; rfl
  · rintro o (⟨rfl, hh⟩ | ⟨rfl, hh⟩)
    · exact ok.some ⟨fun _ => ⟨by omega, fun i hi => hh i hi hi⟩, fun _ => rfl⟩
    · exact ok.some ⟨fun e => (by cases e), fun e => (hh fun k hk h => e.2 k h).elim⟩
theorem chrowI {f : List I_Column} {r : List I_Value} {c : I_Change} (hv : vF f) (hf : fitP f r) (hp : poss f c) (hc : c.column.default.text.size ≤ 5000000) : m_I_ChangeRow N f r c = some (mv r c, true) := by
  have hl := hv.1
  have hrl := hf.1
  refine ok.val ?_
  unfold m_I_ChangeRow
  refine ok.eq (fitI hN (vF_bS hv) (fit_bR hf (by omega))) (ok.ift ⟨hv, hf⟩ (ok.eq (possI hN hc) (ok.ift hp (ok.eq (show m_slices_Clone_I_Value N r = some r from appM0 (by omega)) ?_))))
  unfold mv
  rcases hp with ⟨k, h1, h2, h3, h4⟩ | ⟨k, h1, h2, h3⟩ | ⟨k, h1, h2, h3⟩
  · refine ok.ift k (ok.eq (insM_eq ⟨h1, by omega⟩ (by omega)) (ok.some ?_))
    rw [if_pos k]
  · refine ok.iff (by omega) (ok.ift k (ok.chk (by omega) (ok.eq (delM_eq ⟨h1, by omega⟩) (ok.some ?_))))
    rw [if_neg (by omega), if_pos k]
  · have h2' : c.at_.toNat < r.length := by omega
    refine ok.iff (by omega) (ok.iff (by omega) (ok.eq (ixI_eq (n := c.at_.toNat) (by omega) h2') (ok.eq (widI hN (hf.2 _ h2' h2).1) (ok.some ?_))))
    rw [if_neg (by omega), if_neg (by omega), mod_eq h2']
theorem moveS {f : List I_Column} {r : List I_Value} {c : I_Change} (hv : vF f) (hf : fitP f r) (hp : poss f c) : m_S_move N r c = some (mv r c) := by
  have hl := hv.1
  have hrl := hf.1
  have hat := poss_at hp
  refine ok.val ?_
  unfold m_S_move
  refine ok.eq (subM_eq (by omega)) (ok.eq (appM0 (by simp; omega)) ?_)
  unfold mv
  rcases hp with ⟨k, h1, h2, h3, h4⟩ | ⟨k, h1, h2, h3⟩ | ⟨k, h1, h2, h3⟩
  · refine ok.ift k (ok.app (by simp; omega) (ok.eq (subM_eq (by omega)) (ok.app (by simp; omega) (ok.some ?_))))
    rw [if_pos k, ← ins_eq (by omega)]
    simp only [Int.toNat_zero, List.drop_zero, Nat.sub_zero, List.append_assoc, List.singleton_append]
    congr 2
    exact List.take_of_length_le (by simp)
  · refine ok.iff (by omega) (ok.iff (by omega) (ok.chk (by omega) (ok.eq (subM_eq (by omega)) (ok.app (by simp; omega) (ok.some ?_)))))
    rw [if_neg (by omega), if_pos k, List.eraseIdx_eq_take_drop_succ]
    have e : (c.at_ + 1).toNat = c.at_.toNat + 1 := by omega
    simp only [Int.toNat_zero, List.drop_zero, Nat.sub_zero, e]
    congr 1
    exact List.take_of_length_le (by simp)
  · have h2' : c.at_.toNat < r.length := by omega
    have hn := vV_num (hf.2 _ h2' h2).1
    refine ok.iff (by omega) (ok.ift k (ok.eq (ixI_eq (n := c.at_.toNat) (by omega) h2') (ok.eq (widS hN (by omega)) (ok.app (by simp; omega) (ok.chk (by omega) (ok.eq (subM_eq (by omega)) (ok.app (by simp; omega) (ok.some ?_))))))))
    rw [if_neg (by omega), if_neg (by omega), List.modify_eq_take_cons_drop h2']
    have e : (c.at_ + 1).toNat = c.at_.toNat + 1 := by omega
    simp only [Int.toNat_zero, List.drop_zero, Nat.sub_zero, e, List.append_assoc, List.singleton_append]
    congr 2
    exact List.take_of_length_le (by simp)
theorem readI {f : List I_Column} {l : List I_Change} {r : List I_Value} {a : Int} {n : Nat} (ho : cO f l) (hc : bCs l) (ha : a = n) (hn : n ≤ l.length) (hf : fitP (fA f l n) r) : m_I_ReadRow N f l a (l.length : Int) r = some (mA r l n l.length, true) := by
  subst ha
  have hcl := hc.1
  have hvn := cO_fA ho hn
  have hrl := hf.1
  have hvl := hvn.1
  refine ok.val ?_
  unfold m_I_ReadRow
  refine ok.eq (chainI hN (vF_bS ho.1) hc) ?_
  rw [if_pos ho]
  have hlen := chs_len f l
  refine ok.bt rfl (ok.iff (by omega) (ok.iff (by omega) (ok.iff (by dsimp only; omega) (ok.eq (chs_ix rfl hn) (ok.eq (fitI hN (vF_bS hvn) (fit_bR hf (by omega))) (ok.ift ⟨hvn, hf⟩ (ok.eq (show m_slices_Clone_I_Value N r = some r from appM0 (by omega)) ?_)))))))
  refine ok.call (P := fun o => o = .inl (mA r l n l.length)) (ok.each (l.length - n) (fun i s => s = (((n + i : Nat) : Int), mA r l n (n + i))) _ ?_ ?_ N 0 _ (Nat.zero_le _) (by rw [Nat.add_zero, mA_self]) (by omega)) ?_
  · rintro i s hi rfl
    show ok (m_I_ReadRow_b1 N l _ _ _ _) _
    unfold m_I_ReadRow_b1
    refine ok.ift (by omega) (ok.eq (chs_ix rfl (by omega)) (ok.eq (ixI_nat (by omega)) (ok.eq (chrowI hN (cO_fA ho (by omega)) (fit_mA ho.2.2 hf _ (by omega) (by omega)) (ho.2.2 (n + i) (by omega)) (hc.2 _ (List.getElem_mem _))) (ok.bt rfl (ok.chk (by omega) (ok.some ?_))))))
    rw [show n + (i + 1) = n + i + 1 from rfl, mA_succ r (by omega) (by omega)]; simp
  · rintro s rfl
    show ok (m_I_ReadRow_b1 N l _ _ _ _) _
    unfold m_I_ReadRow_b1
    refine ok.iff (by omega) (ok.some ?_)
    rw [show n + (l.length - n) = l.length by omega]
  · rintro o rfl
    exact ok.some rfl
theorem advS {f : List I_Column} {l : List I_Change} {r : List I_Value} {n : Nat} (ho : cO f l) (hn : n ≤ l.length) (hf : fitP (fA f l n) r) : m_S_advance N r (l.drop n) = some (mA r l n l.length) := by
  have h8 := ho.2.1
  have hvn := cO_fA ho hn
  have hrl := hf.1
  have hvl := hvn.1
  refine ok.val ?_
  unfold m_S_advance
  refine ok.eq (appM0 (by omega)) (ok.call (P := fun o => o = mA r l n l.length) (ok.each (l.length - n) (fun i s => s = ((i : Int), mA r l n (n + i))) _ ?_ ?_ N 0 _ (Nat.zero_le _) (by rw [Nat.add_zero, mA_self]; rfl) (by omega)) ?_)
  · rintro i s hi rfl
    show ok (m_S_advance_b1 N _ _ _) _
    unfold m_S_advance_b1
    have hd : i < (l.drop n).length := by simp; omega
    refine ok.ift (by simp; omega) (ok.eq (ixI_nat hd) ?_)
    have e : (l.drop n)[i] = l[n + i] := List.getElem_drop
    rw [e]
    refine ok.eq (moveS hN (cO_fA ho (by omega)) (fit_mA ho.2.2 hf _ (by omega) (by omega)) (ho.2.2 (n + i) (by omega))) (ok.chk (by omega) (ok.some ?_))
    rw [show n + (i + 1) = n + i + 1 from rfl, mA_succ r (by omega) (by omega)]; simp
  · rintro s rfl
    show ok (m_S_advance_b1 N _ _ _) _
    unfold m_S_advance_b1
    refine ok.iff (by simp) (ok.some ?_)
    rw [show n + (l.length - n) = l.length by omega]
  · rintro o rfl
    exact ok.some rfl
end
end V
end Go.Proofs.YtkjnnifnmoekjaaGreatDoor
namespace Go.Proofs.YtkjnnifnmoekjaaGreatDoor
namespace V
set_option linter.unusedVariables false
set_option linter.unusedSimpArgs false
set_option maxHeartbeats 1000000
/-- A row of a table that is valid. -/
def rV (t : I_Table) (r : I_Tagged) : Prop := 0 ≤ r.tag ∧ r.tag ≤ t.changes.length ∧ fitP (fA t.first t.changes r.tag.toNat) r.row
noncomputable instance (t : I_Table) (r : I_Tagged) : Decidable (rV t r) := Classical.propDecidable _
/-- A table that is valid. -/
def tV (t : I_Table) : Prop := cO t.first t.changes ∧ t.rows.length ≤ 10 ∧ ∀ i (h : i < t.rows.length), rV t t.rows[i]
noncomputable instance (t : I_Table) : Decidable (tV t) := Classical.propDecidable _
/-- A table is not too large. -/
structure bT (t : I_Table) : Prop where
  f : bS t.first
  c : bCs t.changes
  rl : t.rows.length ≤ 5000000
  r : ∀ i (h : i < t.rows.length), bR t.rows[i].row
/-- The last format. -/
def fL (t : I_Table) : List I_Column := fA t.first t.changes t.changes.length
theorem fL_v {t : I_Table} (h : tV t) : vF (fL t) := cO_fA h.1 (Nat.le_refl _)
theorem rV_bR {t : I_Table} {r : I_Tagged} (ho : cO t.first t.changes) (h : rV t r) : bR r.row := by
  have := (cO_fA ho (i := r.tag.toNat) (by have := h.2.1; omega)).1
  exact fit_bR h.2.2 (by omega)
/-- A row in the last format. -/
def adv (t : I_Table) (r : I_Tagged) : List I_Value := mA r.row t.changes r.tag.toNat t.changes.length
theorem adv_fit {t : I_Table} {r : I_Tagged} (h : tV t) (hr : rV t r) : fitP (fL t) (adv t r) := fit_mA h.1.2.2 hr.2.2 _ (by have := hr.2.1; omega) (Nat.le_refl _)
section
variable {α β : Type} (o : α → Bool) (a : α → α)
end
/-- The rows of a table in the last format. -/
noncomputable def tR (t : I_Table) : List (List I_Value) := if tV t then t.rows.map (adv t) else []
theorem fA_app (f : List I_Column) {l : List I_Change} (c : I_Change) {i : Nat} (h : i ≤ l.length) : fA f (l ++ [c]) i = fA f l i := by
  unfold fA; rw [List.take_append_of_le_length h]
theorem gC_app {f : List I_Column} {l : List I_Change} {c : I_Change} : gC f (l ++ [c]) ↔ gC f l ∧ poss (fA f l l.length) c := by
  constructor
  · intro h
    refine ⟨fun i hi => ?_, ?_⟩
    · have := h i (by simp; omega)
      rw [fA_app f c (by omega), List.getElem_append_left hi] at this; exact this
    · have := h l.length (by simp)
      rw [fA_app f c (Nat.le_refl _), List.getElem_append_right (Nat.le_refl _)] at this
      simpa using this
  · rintro ⟨h1, h2⟩ i hi
    rw [List.length_append, List.length_singleton] at hi
    rw [fA_app f c (by omega)]
    rcases Nat.lt_succ_iff_lt_or_eq.1 hi with h | rfl
    · rw [List.getElem_append_left h]; exact h1 i h
    · rw [List.getElem_append_right (Nat.le_refl _)]
      simp only [Nat.sub_self, List.getElem_cons_zero]; exact h2
section
variable {N : Nat} (hN : 100000000 ≤ N)
include hN
theorem lastI {t : I_Table} (hb : bT t) : m_I_Table_lastFormat N t = some (if tV t then (fL t, true) else ([], false)) := by
  have hcl := hb.c.1
  have hrl := hb.rl
  refine ok.val ?_
  unfold m_I_Table_lastFormat
  refine ok.eq (chainI hN hb.f hb.c) ?_
  by_cases ho : cO t.first t.changes
  · rw [if_pos ho]
    have hlen := chs_len t.first t.changes
    refine ok.bt rfl (ok.ite (fun h10 => ok.some ?_) fun h10 => ?_)
    · rw [if_neg fun e : tV t => by have := e.2.1; omega]
    · refine ok.call (P := fun o => (o = .inl () ∧ ∀ i (h : i < t.rows.length), rV t t.rows[i]) ∨ (o = .inr ([], false) ∧ ¬ ∀ i (h : i < t.rows.length), rV t t.rows[i])) (ok.each t.rows.length (fun i s => s = (i : Int) ∧ ∀ k (h : k < t.rows.length), k < i → rV t t.rows[k]) _ ?_ ?_ N 0 _ (Nat.zero_le _) ⟨rfl, fun k h hk => by omega⟩ (by omega)) ?_
      · rintro i s hi ⟨rfl, hg⟩
        show ok (m_I_Table_lastFormat_b1 N t _ (i : Int)) _
        unfold m_I_Table_lastFormat_b1
        refine ok.ift (by omega) (ok.eq (ixI_nat hi) (ok.ite (fun c1 => ok.some (.inr ⟨rfl, fun e => by have := (e i hi).1; omega⟩)) fun c1 => ok.ite (fun c2 => ok.some (.inr ⟨rfl, fun e => ?_⟩)) fun c2 => ?_))
        · have := (e i hi).2.1
          dsimp only at c2; omega
        · have hr := hb.r i hi
          dsimp only at c2
          have hv := cO_fA ho (i := t.rows[i].tag.toNat) (by omega)
          refine ok.eq (chs_ix (n := t.rows[i].tag.toNat) (by omega) (by omega)) (ok.eq (fitI hN (vF_bS hv) hr) (ok.ite (fun c3 => ok.chk (by omega) (ok.some ⟨by simp, fun k hk hki => ?_⟩)) fun c3 => ok.some (.inr ⟨rfl, fun e => c3 ⟨hv, (e i hi).2.2⟩⟩)))
          rcases Nat.lt_succ_iff_lt_or_eq.1 hki with h | rfl
          · exact hg k hk h
          · exact ⟨by omega, by omega, c3.2⟩
      · rintro s ⟨rfl, hg⟩
        show ok (m_I_Table_lastFormat_b1 N t _ _) _
        unfold m_I_Table_lastFormat_b1
        exact ok.iff (by omega) (ok.some (.inl ⟨rfl, fun k hk => hg k hk hk⟩))
      · rintro o (⟨rfl, h⟩ | ⟨rfl, h⟩)
        · rw [if_pos (show tV t from ⟨ho, by omega, h⟩)]
          show ok (m_I_Table_lastFormat_k1 N t _) _
          unfold m_I_Table_lastFormat_k1
          refine ok.eq (show m_I_Table_last N t = some (t.changes.length : Int) from rfl) (ok.eq (chs_ix rfl (Nat.le_refl _)) (ok.some rfl))
        · rw [if_neg fun e : tV t => h e.2.2]; exact ok.some rfl
  · rw [if_neg ho, if_neg fun e : tV t => ho e.1]
    exact ok.bf rfl (ok.some rfl)
theorem validTI {t : I_Table} (hb : bT t) : m_I_ValidTable N t = some (decide (tV t)) := by
  refine ok.val ?_
  unfold m_I_ValidTable
  refine ok.eq (lastI hN hb) (ok.some ?_)
  by_cases h : tV t
  · rw [if_pos h, decide_eq_true h]
  · rw [if_neg h, decide_eq_false h]
theorem validTS {t : I_Table} (hb : bT t) : m_S_validTable N t = some (decide (tV t)) := by
  have hcl := hb.c.1
  have hrl := hb.rl
  refine bool_eq ?_
  unfold m_S_validTable
  refine ok.eq (vchainS hN hb.f hb.c) (ok.ite (fun ho => ok.ite (fun h10 => ok.some ⟨fun e => (by cases e), fun e => by have := e.2.1; omega⟩) fun h10 => ?_) fun ho => ok.some ⟨fun e => (by cases e), fun e => (ho e.1).elim⟩)
  refine ok.eq (formatsS hN hb.f.1 (vF_bN ho.1) hb.c) ?_
  rw [if_pos ho.2.2]
  refine ok.call (all_ok (n := t.rows.length) 0 (fun i => ∀ (h : i < t.rows.length), rV t t.rows[i]) (by omega) (fun i hi _ => ?_) ?_) ?_
  · rw [Int.add_zero]
    show ok (m_S_validTable_b1 N t _ (i : Int)) _
    unfold m_S_validTable_b1
    refine ok.ift (by omega) (ok.eq (ixI_nat hi) (ok.eq (inRange_eq N _ _ _) (ok.ite (fun c1 => ?_) fun c1 => ok.some (.inr ⟨rfl, fun e => c1 ⟨(e hi).1, (e hi).2.1⟩⟩))))
    have hr := hb.r i hi
    have hv := cO_fA ho (i := t.rows[i].tag.toNat) (by omega)
    refine ok.eq (ixI_nat hi) (ok.eq (chs_ix (n := t.rows[i].tag.toNat) (by omega) (by omega)) (ok.eq (ixI_nat hi) (ok.eq (fitS hN hr hv.1.2) (ok.ite (fun c3 => ok.chk (by omega) (ok.some (.inl ⟨rfl, fun _ => ⟨c1.1, c1.2, c3⟩⟩))) fun c3 => ok.some (.inr ⟨rfl, fun e => c3 (e hi).2.2⟩)))))
  · rw [Int.add_zero]
    show m_S_validTable_b1 N t _ _ = _
    unfold m_S_validTable_b1
    rw [decide_eq_false (by omega)]; rfl
  · rintro o (⟨rfl, hh⟩ | ⟨rfl, hh⟩)
    · exact ok.some ⟨fun _ => ⟨ho, by omega, fun i hi => hh i hi hi⟩, fun _ => rfl⟩
    · exact ok.some ⟨fun e => (by cases e), fun e => (hh fun k hk h => e.2.2 k h).elim⟩
theorem read1I {t : I_Table} {r : I_Tagged} (h : tV t) (hc : bCs t.changes) (hr : rV t r) : m_I_Table_read N t r = some (adv t r) := by
  unfold m_I_Table_read
  refine ok.val ?_
  refine ok.eq (show m_I_Table_last N t = some (t.changes.length : Int) from rfl) (ok.eq (readI hN h.1 hc (n := r.tag.toNat) (by have := hr.1; omega) (by have := hr.2.1; omega) hr.2.2) (ok.some rfl))
theorem adv1S {t : I_Table} {r : I_Tagged} (h : tV t) (hr : rV t r) : m_S_advance N r.row (t.changes.drop r.tag.toNat) = some (adv t r) := advS hN h.1 (by have := hr.2.1; omega) hr.2.2
omit hN in
theorem map_take {α β : Type} (f : α → β) {xs : List α} {i : Nat} (h : i < xs.length) : (xs.take (i + 1)).map f = (xs.take i).map f ++ [f xs[i]] := by rw [take_succ1 h, List.map_append]; rfl
theorem rowsI {t : I_Table} (hb : bT t) : m_I_TableRows N t = some (tR t) := by
  have hrl := hb.rl
  refine ok.val ?_
  unfold m_I_TableRows tR
  refine ok.eq (validTI hN hb) (ok.ite (fun h => ?_) fun h => ok.some (by rw [if_neg h]))
  rw [if_pos h]
  refine ok.call (P := fun o => o = t.rows.map (adv t)) (ok.each t.rows.length (fun i s => s = ((i : Int), (t.rows.take i).map (adv t))) _ ?_ ?_ N 0 _ (Nat.zero_le _) rfl (by omega)) ?_
  · rintro i s hi rfl
    show ok (m_I_TableRows_b1 N t (i : Int) _) _
    unfold m_I_TableRows_b1
    refine ok.ift (by omega) (ok.eq (ixI_nat hi) (ok.eq (read1I hN h hb.c (h.2.2 i hi)) (ok.app (by simp; omega) (ok.chk (by omega) (ok.some ?_)))))
    rw [map_take _ hi]; simp
  · rintro s rfl
    show ok (m_I_TableRows_b1 N t _ _) _
    unfold m_I_TableRows_b1
    refine ok.iff (by omega) (ok.some ?_)
    rw [List.take_length]
  · rintro o rfl
    exact ok.some rfl
theorem latestS {t : I_Table} (h : tV t) : m_S_latest N t = some (t.rows.map (adv t)) := by
  have hrl := h.2.1
  have h8 := h.1.2.1
  refine ok.val ?_
  unfold m_S_latest
  refine ok.call (P := fun o => o = t.rows.map (adv t)) (ok.each t.rows.length (fun i s => s = ((i : Int), (t.rows.take i).map (adv t))) _ ?_ ?_ N 0 _ (Nat.zero_le _) rfl (by omega)) ?_
  · rintro i s hi rfl
    show ok (m_S_latest_b1 N t (i : Int) _) _
    unfold m_S_latest_b1
    have hr := h.2.2 i hi
    have h1 := hr.1
    have h2 := hr.2.1
    refine ok.ift (by omega) (ok.eq (ixI_nat hi) (ok.eq (ixI_nat hi) (ok.eq (subM_eq (by omega)) ?_)))
    rw [Int.toNat_natCast, List.take_of_length_le (by rw [List.length_drop]; exact Nat.le_refl _)]
    refine ok.eq (adv1S hN h hr) (ok.app (by simp; omega) (ok.chk (by omega) (ok.some ?_)))
    rw [map_take _ hi]; simp
  · rintro s rfl
    show ok (m_S_latest_b1 N t _ _) _
    unfold m_S_latest_b1
    refine ok.iff (by omega) (ok.some ?_)
    rw [List.take_length]
  · rintro o rfl
    exact ok.some rfl
end
end V
end Go.Proofs.YtkjnnifnmoekjaaGreatDoor
namespace Go.Proofs
open Go.Shelf
def Tryz.lays189_ren : Go.Shelf.Ren := ⟨fun | 189 => 70 | 125 => 95 | 257 => 106 | 128 => 129 | 129 => 130 | 294 => 135 | 295 => 136 | 296 => 137 | 297 => 138 | 298 => 139 | 299 => 140 | 216 => 141 | 300 => 142 | 301 => 143 | 328 => 159 | 329 => 148 | 330 => 149 | 331 => 160 | 332 => 161 | 215 => 96 | 343 => 169 | n => n, fun | 28 => 31 | 3 => 3 | 46 => 144 | 0 => 0 | 51 => 172 | 53 => 174 | 4 => 4 | 183 => 165 | 182 => 164 | 131 => 169 | 5 => 5 | 9 => 9 | 218 => 185 | 222 => 189 | 228 => 198 | 229 => 199 | n => n, fun | n => n⟩
theorem Tryz.lays189 : Go.Proofs.Lays.n189 Tryz.prog Tryz.lays189_ren := {
  mixed := by kernel_rfl
  f125 := Tryz.func95.trans (congrArg some (by kernel_rfl))
  f128 := Tryz.func129.trans (congrArg some (by kernel_rfl))
  f129 := Tryz.func130.trans (congrArg some (by kernel_rfl))
  f189 := Tryz.func70.trans (congrArg some (by kernel_rfl))
  f215 := Tryz.func96.trans (congrArg some (by kernel_rfl))
  f216 := Tryz.func141.trans (congrArg some (by kernel_rfl))
  f257 := Tryz.func106.trans (congrArg some (by kernel_rfl))
  f294 := Tryz.func135.trans (congrArg some (by kernel_rfl))
  f295 := Tryz.func136.trans (congrArg some (by kernel_rfl))
  f296 := Tryz.func137.trans (congrArg some (by kernel_rfl))
  f297 := Tryz.func138.trans (congrArg some (by kernel_rfl))
  f298 := Tryz.func139.trans (congrArg some (by kernel_rfl))
  f299 := Tryz.func140.trans (congrArg some (by kernel_rfl))
  f300 := Tryz.func142.trans (congrArg some (by kernel_rfl))
  f301 := Tryz.func143.trans (congrArg some (by kernel_rfl))
  f328 := Tryz.func159.trans (congrArg some (by kernel_rfl))
  f329 := Tryz.func148.trans (congrArg some (by kernel_rfl))
  f330 := Tryz.func149.trans (congrArg some (by kernel_rfl))
  f331 := Tryz.func160.trans (congrArg some (by kernel_rfl))
  f332 := Tryz.func161.trans (congrArg some (by kernel_rfl))
  f343 := Tryz.func169.trans (congrArg some (by kernel_rfl))
  t0 := Tryz.underlying0
  a0 := Tryz.isAgg0
  z0 := Tryz.sizeOf0
  v0 := Tryz.zeroValue0
  t3 := Tryz.underlying3
  a3 := Tryz.isAgg3
  z3 := Tryz.sizeOf3
  v3 := Tryz.zeroValue3
  t4 := Tryz.underlying4
  a4 := Tryz.isAgg4
  z4 := Tryz.sizeOf4
  v4 := Tryz.zeroValue4
  t5 := Tryz.underlying5
  a5 := Tryz.isAgg5
  z5 := Tryz.sizeOf5
  v5 := Tryz.zeroValue5
  t9 := Tryz.underlying9
  a9 := Tryz.isAgg9
  z9 := Tryz.sizeOf9
  v9 := Tryz.zeroValue9
  t28 := Tryz.underlying31
  a28 := Tryz.isAgg31
  z28 := Tryz.sizeOf31
  v28 := Tryz.zeroValue31
  t46 := Tryz.underlying144
  a46 := Tryz.isAgg144
  z46 := Tryz.sizeOf144
  v46 := Tryz.zeroValue144
  t51 := Tryz.underlying172
  a51 := Tryz.isAgg172
  z51 := Tryz.sizeOf172
  v51 := Tryz.zeroValue172
  t53 := Tryz.underlying174
  a53 := Tryz.isAgg174
  z53 := Tryz.sizeOf174
  v53 := Tryz.zeroValue174
  t131 := Tryz.underlying169
  a131 := Tryz.isAgg169
  z131 := Tryz.sizeOf169
  v131 := Tryz.zeroValue169
  t182 := Tryz.underlying164
  a182 := Tryz.isAgg164
  z182 := Tryz.sizeOf164
  v182 := Tryz.zeroValue164
  t183 := Tryz.underlying165
  a183 := Tryz.isAgg165
  z183 := Tryz.sizeOf165
  v183 := Tryz.zeroValue165
  t218 := Tryz.underlying185
  a218 := Tryz.isAgg185
  z218 := Tryz.sizeOf185
  v218 := Tryz.zeroValue185
  t222 := Tryz.underlying189
  a222 := Tryz.isAgg189
  z222 := Tryz.sizeOf189
  v222 := Tryz.zeroValue189
  t228 := Tryz.underlying198
  a228 := Tryz.isAgg198
  z228 := Tryz.sizeOf198
  v228 := Tryz.zeroValue198
  t229 := Tryz.underlying199
  a229 := Tryz.isAgg199
  z229 := Tryz.sizeOf199
  v229 := Tryz.zeroValue199 }
end Go.Proofs
namespace Go.Proofs.YtkjnnifnmoekjaaGreatDoor
namespace V
/-- What stands for the sorted list. -/
def sortP (l : List Int) : List Int := l.mergeSort (fun a b => decide (a ≤ b))
theorem sortP_perm (l : List Int) : (sortP l).Perm l := List.mergeSort_perm l _
theorem sortP_pw (l : List Int) : (sortP l).Pairwise (· ≤ ·) := by
  have h := List.pairwise_mergeSort (le := fun a b : Int => decide (a ≤ b)) (fun a b c h1 h2 => by simp at *; omega) (fun a b => by simp; omega) l
  exact h.imp fun h => by simpa using h
theorem sortP_of {l v : List Int} (h1 : v.Perm l) (h2 : v.Pairwise (· ≤ ·)) : v = sortP l :=
  List.Perm.eq_of_pairwise (fun a b _ _ h3 h4 => by omega) h2 (sortP_pw l) (h1.trans (sortP_perm l).symm)
theorem sortP_len (l : List Int) : (sortP l).length = l.length := (sortP_perm l).length_eq
end V
end Go.Proofs.YtkjnnifnmoekjaaGreatDoor
namespace Go.Proofs.YtkjnnifnmoekjaaGreatDoor
namespace V
open Go.Sort
set_option linter.unusedVariables false
set_option linter.unusedSimpArgs false
theorem eL_int : ∀ xs : List Int, eL xs = xs.map fun i => Tr.v (.int .i64 i)
  | [] => rfl
  | x :: xs => by
    have := eL_int xs
    show _ :: eL xs = _
    rw [this]; rfl
theorem sortP_nil : sortP [] = [] := List.eq_nil_of_length_eq_zero (sortP_len [])
def m_slices_Sort_int (N : Nat) (p_x : List Int) : Option (List Int) := if p_x.length < 4611686018427387904 then some (sortP p_x) else none
theorem len_slices_Sort_int (N : Nat) (p_x r : List Int) (h : m_slices_Sort_int N p_x = some r) : r.length = p_x.length := by
  unfold m_slices_Sort_int at h
  split at h
  · cases h; exact sortP_len _
  · cases h
theorem putCells_get (off : Nat) (d : Array Int) (c : Array Value) {j : Nat} (h : j < d.size) (hc : off + j < c.size) : (putCells (Value.int .i64) off d c)[off + j]? = some (.int .i64 d[j]) := by
  simp only [putCells, Array.getElem?_mapIdx, Array.getElem?_eq_getElem hc, Option.map_some]
  rw [if_pos ⟨by omega, by omega⟩, show off + j - off = j by omega, getElem!_pos d j h]
theorem w_slices_Sort_int (N : Nat) (p_x r : List Int) (hh0 : m_slices_Sort_int N p_x = some r) : FnX Tryz.prog 70 [⟨.tr (eL p_x), 3, 1⟩] [.os 0 0 p_x.length] (RE (.tup []) [⟨.tr (eL r), 3, 1⟩]) := by
  have hlen := len_slices_Sort_int N p_x r hh0
  unfold m_slices_Sort_int at hh0
  split at hh0
  case isFalse => cases hh0
  rename_i hbig
  obtain rfl := (Option.some.inj hh0).symm
  intro s U av S hV ha
  obtain ⟨hal, har⟩ := ha
  obtain ⟨y, rfl⟩ : ∃ y, av = [y] := List.length_eq_one_iff.1 hal
  have hy := har 0 _ y rfl rfl
  have hsl : s.L.length = 1 := by rw [S.len]; rfl
  obtain ⟨x, hx⟩ : ∃ x, s.L[0]? = some x := ⟨s.L[0], List.getElem?_eq_getElem (by omega)⟩
  have hown := S.own 0 _ x rfl hx
  have cells : ((⟨.tr (eL p_x), 3, 1⟩ : Ob).cells) = p_x.map fun i => AV.t (.v (.int .i64 i)) := by
    simp [Ob.cells, Cs.list, eL_int]
  by_cases h0 : p_x.length = 0
  · obtain rfl := List.eq_nil_of_length_eq_zero h0
    have hz : ∃ p cap, y = .slice p 0 cap := by
      cases hy with
      | os _ _ _ cap L _ _ _ _ => exact ⟨_, _, rfl⟩
      | osn => exact ⟨_, _, rfl⟩
      | osz => exact ⟨_, _, rfl⟩
      | osd _ _ _ _ _ hM => rw [hx] at hM; cases hM; exact hown.elim
    obtain ⟨p, cap, rfl⟩ := hz
    refine (Any.slices_Sort_int_none Tryz.lays189 p cap s.w).mono ?_
    rintro e w' ⟨rfl, rfl⟩
    rw [sortP_nil]
    exact ⟨_, _, _, s.L, U, rfl, ⟨rfl, rfl⟩, .tup [] [] rfl (fun j c y h => by simp at h), S⟩
  · generalize hn0 : p_x.length = n0 at hy
    cases hy with
    | osn => exact (h0 hn0).elim
    | osz => exact (h0 hn0).elim
    | osd _ _ _ _ _ hM => rw [hx] at hM; cases hM; exact hown.elim
    | os _ _ _ cap L hM hcap hn hcm =>
      rw [hx] at hM; cases hM
      subst hn0
      obtain ⟨hk, hle, cur, hcur, hsz, hr⟩ := hown
      rw [cells] at hle hr
      simp only [List.length_map] at hle
      have hget : ∀ j (h : j < p_x.length), cur[L.off + j]? = some (.int .i64 p_x[j]) := fun j h => by
        obtain ⟨z, hz, _, hR⟩ := hr j (.t (.v (.int .i64 p_x[j]))) (by rw [List.getElem?_map, List.getElem?_eq_getElem h]; rfl)
        rw [hz, Rel.int hR]
      have hlt := S.lt _ (.ad hx)
      have H : Holds (Value.int .i64) s.w L.blk L.off p_x.toArray := by
        intro j hj
        simp only [List.size_toArray] at hj
        refine ⟨?_, ?_⟩
        · rw [cell_of_row s.w _ _ cur _ _ hcur, hget j hj]
          rw [getElem!_pos p_x.toArray j (by simpa using hj)]; simp
        · simp [World.frozen?, hcur]
      have main := Any.slices_Sort_int Tryz.lays189 L.blk L.off cap p_x s.w H hlt hbig
      refine main.mono ?_
      rintro e w' ⟨rfl, n, os, rfl⟩
      have hs : (sortP p_x).length = p_x.length := sortP_len p_x
      have hheap : (putRow (Value.int .i64) (Go.Sort.ahead s.w n) L.blk L.off (sortP p_x).toArray).heap[L.blk]? = some (.cells (putCells (Value.int .i64) L.off (sortP p_x).toArray cur) 3 (0, 0)) := by
        show (s.w.heap.modify L.blk (onCells _))[L.blk]? = _
        rw [Array.getElem?_modify, if_pos rfl, hcur]; rfl
      have hb : BelowX [L.blk] s.w (grow (putRow (Value.int .i64) (Go.Sort.ahead s.w n) L.blk L.off (sortP p_x).toArray) os) := by
        refine ⟨rfl, rfl, rfl, by simp, fun k hk hkx => ?_⟩
        rw [heap_grow_old _ _ (by simpa using hk)]
        show (s.w.heap.modify L.blk (onCells _))[k]? = _
        rw [Array.getElem?_modify, if_neg (fun e => hkx (by simp [e]))]
      obtain ⟨S', _⟩ := S.turn (b := 0) (L := L) (ob' := ⟨.tr (eL (sortP p_x)), 3, 1⟩) hx hb (by simp) (by
        have cells' : ((⟨.tr (eL (sortP p_x)), 3, 1⟩ : Ob).cells) = (sortP p_x).map fun i => AV.t (.v (.int .i64 i)) := by
          simp [Ob.cells, Cs.list, eL_int]
        refine ⟨hk, by rw [cells', List.length_map]; omega, putCells (Value.int .i64) L.off (sortP p_x).toArray cur, ?_, ?_, fun j c hc => ?_⟩
        · rw [heap_grow_old _ _ (by simpa using hlt)]; exact hheap
        · simp [putCells, hsz]
        · rw [cells', List.getElem?_map] at hc
          have hj : j < (sortP p_x).length := by
            rcases Nat.lt_or_ge j (sortP p_x).length with h | h
            · exact h
            · rw [List.getElem?_eq_none h] at hc; cases hc
          rw [List.getElem?_eq_getElem hj] at hc
          cases hc
          refine ⟨_, putCells_get L.off (sortP p_x).toArray cur (by simpa using hj) (by omega), rfl, ?_⟩
          exact .t _ _ (.v _ rfl))
      exact ⟨_, _, _, s.L, U, rfl, ⟨rfl, rfl⟩, .tup [] [] rfl (fun j c y h => by simp at h), S'⟩
end V
end Go.Proofs.YtkjnnifnmoekjaaGreatDoor
namespace Go.Proofs.YtkjnnifnmoekjaaGreatDoor
namespace V
open Enc (enc)
set_option linter.unusedVariables false
set_option linter.unusedSimpArgs false
set_option maxHeartbeats 4000000
set_option maxRecDepth 100000
open Go.RowKit
attribute [local irreducible] thA inA FinA eL
def m_I_SearchPairs_k1 (N : Nat) (v27 : (List Int)) : Option ((List Int)) :=
  (m_slices_Sort_int N v27).bind fun xs33 =>
  some xs33
def m_I_SearchPairs_b1 (N : Nat) (p_list : (List I_Pair)) (r8 : (ByteArray)) (r10 : (ByteArray)) (i12 : Int) (v13 : (List Int)) : Option ((Int × (List Int)) ⊕ (List Int)) :=
  cond (decide (i12 < (p_list.length : Int)))
    ((ixI p_list i12).bind fun x36 =>
    cond (Op.bytesLess x36.key.toList r8.toList)
      ((chk (i12 + (1 : Int))).bind fun n39 =>
      some (.inl (n39, v13)))
      (cond (Op.bytesLess r10.toList x36.key.toList)
        ((chk (i12 + (1 : Int))).bind fun n42 =>
        some (.inl (n42, v13)))
        ((appM 8 v13 [x36.row]).bind fun xs44 =>
        (chk (i12 + (1 : Int))).bind fun n46 =>
        some (.inl (n46, xs44)))))
    (some (.inr v13))
def m_I_SearchPairs (N : Nat) (p_list : (List I_Pair)) (p_low : I_Value) (p_high : I_Value) : Option ((List Int)) :=
  cond (decide ((10 : Int) < (p_list.length : Int)))
    (some ([] : List Int))
    ((m_I_ValidValue N p_low).bind fun r2 =>
    cond r2
      ((m_I_ValidValue N p_high).bind fun r5 =>
      cond r5
        ((m_I_EncodeKey N [p_low]).bind fun r8 =>
        (m_I_EncodeKey N [p_high]).bind fun r10 =>
        (loopM (β := (List Int)) (fun s : Int × (List Int) => m_I_SearchPairs_b1 N p_list r8 r10 s.1 s.2) N ((0 : Int), ([] : List Int))).bind fun e =>
        m_I_SearchPairs_k1 N e)
        (some ([] : List Int)))
      (some ([] : List Int)))
theorem w_I_SearchPairs (N : Nat) (p_list : (List I_Pair)) (p_low : I_Value) (p_high : I_Value) (r : (List Int)) (hh0 : m_I_SearchPairs N p_list p_low p_high = some r) : FnX Tryz.prog 30 [] [sL p_list, .agg [iA p_low.kind, iA p_low.num, sA p_low.text], .agg [iA p_high.kind, iA p_high.num, sA p_high.text]] (RE (.os 0 0 r.length) [⟨.tr (eL r), 3, 1⟩]) := by
  unfold m_I_SearchPairs at hh0; refine FnX.mk Tryz.func30 rfl rfl ?_; intro s hs; refine PC.seq ?_; refine PC.region ?_; refine PL.ef rfl (Ef.box rfl rfl rfl) ?_; refine PL.nm (.op 0 0) [some ⟨.mx [iA p_low.kind, iA p_low.num, sA p_low.text], 39, 0⟩] rfl rfl ?_; refine PL.ef rfl (Ef.box rfl rfl rfl) ?_; refine PL.nm (.op 1 0) [some ⟨.mx [iA p_low.kind, iA p_low.num, sA p_low.text], 39, 0⟩, some ⟨.mx [iA p_high.kind, iA p_high.num, sA p_high.text], 39, 0⟩] rfl rfl ?_; refine PL.op rfl (Rd.asnT rfl) ?_; refine PL.nil ?_; refine thA_n ?_; (iterate 2 refine PC.seq ?_); rcases cond_some hh0 with ⟨h_1, hh0⟩ | ⟨h_1, hh0⟩
  · refine PC.region ?_; refine PL.op rfl (Rd.moveT rfl) ?_; refine PL.op rfl (Rd.lenT rfl) ?_; refine PL.op rfl (Rd.gtr rfl rfl) ?_; refine PL.op rfl (Rd.moveT rfl) ?_; (iterate 3 refine PL.guard_off rfl rfl h_1 ?_); refine PL.op rfl (Rd.pick_t rfl h_1) ?_; refine PL.op rfl (Rd.moveT rfl) ?_; (iterate 3 refine PL.guard_off rfl rfl rfl ?_); refine PL.op rfl (Rd.pick_t rfl rfl) ?_; refine PL.nil ?_; refine thA_n ?_; refine PC.cond_true rfl rfl ?_; refine PC.seq ?_; refine PC.region ?_; refine PL.op rfl (Rd.asnT rfl) ?_; refine PL.nil ?_; refine thA_n ?_; refine PC.ret ?_; refine thA_r ?_; obtain rfl := some_in hh0; exact FinA.mk (r := .os 0 0 0) (bl := [⟨.tr (eL ([] : List Int)), 3, 1⟩]) [none] (.inl rfl) rfl (rl := [.tmp 6]) (.tmp .nil) rfl rfl rfl (.osn rfl) ⟨ow_nil _, trivial⟩ ⟨rfl, rfl⟩
  obtain ⟨r2, h_3, hh0⟩ := bind_some hh0; rcases cond_some hh0 with ⟨h_4, hh0⟩ | ⟨h_4, hh0⟩; rotate_left
  · refine PC.region ?_; refine PL.op rfl (Rd.moveT rfl) ?_; refine PL.op rfl (Rd.lenT rfl) ?_; refine PL.op rfl (Rd.gtr rfl rfl) ?_; refine PL.op rfl (Rd.moveT rfl) ?_; refine PL.guard_on rfl h_1 ?_; refine PL.op rfl (Rd.loadBox rfl rfl rfl) ?_; refine PL.guard_on rfl h_1 ?_; refine PL.callM false [] (w_I_ValidValue N p_low r2 h_3) rfl Tryz.call29 rfl ⟨.aggL ⟨.t _, .t _, .t _, trivial⟩, trivial⟩ rfl trivial (fun h => by cases h) ?_; refine PL.guard_on rfl h_1 ?_; refine PL.op rfl (Rd.unnot rfl) ?_; refine PL.op rfl (Rd.pick_f rfl h_1) ?_; refine PL.op rfl (Rd.moveT rfl) ?_; (iterate 3 refine PL.guard_off rfl rfl (not_f h_4) ?_); refine PL.op rfl (Rd.pick_t rfl (not_f h_4)) ?_; refine PL.nil ?_; refine thA_n ?_; refine PC.cond_true rfl rfl ?_; refine PC.seq ?_; refine PC.region ?_; refine PL.op rfl (Rd.asnT rfl) ?_; refine PL.nil ?_; refine thA_n ?_; refine PC.ret ?_; refine thA_r ?_; obtain rfl := some_in hh0; exact FinA.mk (r := .os 0 0 0) (bl := [⟨.tr (eL ([] : List Int)), 3, 1⟩]) [none] (.inl rfl) rfl (rl := [.tmp 6]) (.tmp .nil) rfl rfl rfl (.osn rfl) ⟨ow_nil _, trivial⟩ ⟨rfl, rfl⟩
  obtain ⟨r5, h_6, hh0⟩ := bind_some hh0; refine PC.region ?_; refine PL.op rfl (Rd.moveT rfl) ?_; refine PL.op rfl (Rd.lenT rfl) ?_; refine PL.op rfl (Rd.gtr rfl rfl) ?_; refine PL.op rfl (Rd.moveT rfl) ?_; refine PL.guard_on rfl h_1 ?_; refine PL.op rfl (Rd.loadBox rfl rfl rfl) ?_; refine PL.guard_on rfl h_1 ?_; refine PL.callM false [] (w_I_ValidValue N p_low r2 h_3) rfl Tryz.call29 rfl ⟨.aggL ⟨.t _, .t _, .t _, trivial⟩, trivial⟩ rfl trivial (fun h => by cases h) ?_; refine PL.guard_on rfl h_1 ?_; refine PL.op rfl (Rd.unnot rfl) ?_; refine PL.op rfl (Rd.pick_f rfl h_1) ?_; refine PL.op rfl (Rd.moveT rfl) ?_; refine PL.guard_on rfl (not_t h_4) ?_; refine PL.op rfl (Rd.loadBox rfl rfl rfl) ?_; refine PL.guard_on rfl (not_t h_4) ?_; refine PL.callM false [] (w_I_ValidValue N p_high r5 h_6) rfl Tryz.call29 rfl ⟨.aggL ⟨.t _, .t _, .t _, trivial⟩, trivial⟩ rfl trivial (fun h => by cases h) ?_; refine PL.guard_on rfl (not_t h_4) ?_; refine PL.op rfl (Rd.unnot rfl) ?_; refine PL.op rfl (Rd.pick_f rfl (not_t h_4)) ?_; refine PL.nil ?_; refine thA_n ?_; rcases cond_some hh0 with ⟨h_7, hh0⟩ | ⟨h_7, hh0⟩; rotate_left
  · refine PC.cond_true rfl (not_f h_7) ?_; refine PC.seq ?_; refine PC.region ?_; refine PL.op rfl (Rd.asnT rfl) ?_; refine PL.nil ?_; refine thA_n ?_; refine PC.ret ?_; refine thA_r ?_; obtain rfl := some_in hh0; exact FinA.mk (r := .os 0 0 0) (bl := [⟨.tr (eL ([] : List Int)), 3, 1⟩]) [none] (.inl rfl) rfl (rl := [.tmp 6]) (.tmp .nil) rfl rfl rfl (.osn rfl) ⟨ow_nil _, trivial⟩ ⟨rfl, rfl⟩
  refine PC.cond_false rfl (not_t h_7) ?_; refine PC.skip ?_; refine thA_n ?_; obtain ⟨r8, h_9, hh0⟩ := bind_some hh0; obtain ⟨r10, h_11, hh0⟩ := bind_some hh0; refine PC.cut hs (fun _ : Unit => [(0, sL p_list), (7, sA r8), (8, sA r10)]) (fun _ => []) (fun _ => True) ?_ ?_
  · refine PC.any (id := 3) 8 (.seg [0, 3] (.fork (.seg [1] (.fork (.seg [2, 4, 5, 6, 7] .done) (.seg [4, 2, 5, 6, 7] .done))) (.seg [4, 1, 2, 5, 6, 7] .done))) [] rfl (by kernel_rfl) rfl ?_; refine PT.seg ?_; (iterate 2 refine PR.op rfl (Rd.loadBox rfl rfl rfl) ?_); refine PR.nil ?_; refine PT.fork ?_ ?_; rotate_left
    · refine PT.seg ?_; refine PR.ef rfl rfl (Ef.litM (α := I_Value) [p_high] [_] rfl rfl (by decide) rfl rfl rfl rfl) ?_; refine PR.nm (.os 2 0 1) [some ⟨.mx [iA p_low.kind, iA p_low.num, sA p_low.text], 39, 0⟩, some ⟨.mx [iA p_high.kind, iA p_high.num, sA p_high.text], 39, 0⟩, some ⟨.tr (eL [p_high]), 39, 3⟩] rfl rfl ?_; refine PR.ef rfl rfl (Ef.litM (α := I_Value) [p_low] [_] rfl rfl (by decide) rfl rfl rfl rfl) ?_; refine PR.nm (.os 3 0 1) [some ⟨.mx [iA p_low.kind, iA p_low.num, sA p_low.text], 39, 0⟩, some ⟨.mx [iA p_high.kind, iA p_high.num, sA p_high.text], 39, 0⟩, some ⟨.tr (eL [p_high]), 39, 3⟩, some ⟨.tr (eL [p_low]), 39, 3⟩] rfl rfl ?_; refine PR.callM true [] (w_I_EncodeKey N [p_low] r8 h_9) rfl Tryz.call54 rfl ⟨.own rfl (by first | decide | exact List.not_mem_nil) rfl rfl, trivial⟩ rfl trivial (fun _ => ⟨trivial, flat_nil⟩) rfl ?_; refine PR.callM true [] (w_I_EncodeKey N [p_high] r10 h_11) rfl Tryz.call54 rfl ⟨.own rfl (by first | decide | exact List.not_mem_nil) rfl rfl, trivial⟩ rfl trivial (fun _ => ⟨trivial, flat_nil⟩) rfl ?_; (iterate 2 refine PR.op rfl (Rd.asnT rfl) ?_); refine PR.nil ?_; refine PT.done ?_; refine PL.nil ?_; refine thA_n ?_; exact ⟨(), trivial, [], ⟨rfl, rfl, trivial, ⟨.t _, .t _, .t _, trivial⟩⟩⟩
    refine PT.seg ?_; refine PR.ef rfl rfl (Ef.litM (α := I_Value) [p_low] [_] rfl rfl (by decide) rfl rfl rfl rfl) ?_; refine PR.nm (.os 2 0 1) [some ⟨.mx [iA p_low.kind, iA p_low.num, sA p_low.text], 39, 0⟩, some ⟨.mx [iA p_high.kind, iA p_high.num, sA p_high.text], 39, 0⟩, some ⟨.tr (eL [p_low]), 39, 3⟩] rfl rfl ?_; refine PR.nil ?_; refine PT.fork ?_ ?_
    · refine PT.seg ?_; refine PR.callM true [] (w_I_EncodeKey N [p_low] r8 h_9) rfl Tryz.call54 rfl ⟨.own rfl (by first | decide | exact List.not_mem_nil) rfl rfl, trivial⟩ rfl trivial (fun _ => ⟨trivial, flat_nil⟩) rfl ?_; refine PR.ef rfl rfl (Ef.litM (α := I_Value) [p_high] [_] rfl rfl (by decide) rfl rfl rfl rfl) ?_; refine PR.nm (.os 3 0 1) [some ⟨.mx [iA p_low.kind, iA p_low.num, sA p_low.text], 39, 0⟩, some ⟨.mx [iA p_high.kind, iA p_high.num, sA p_high.text], 39, 0⟩, some ⟨.tr (eL [p_low]), 39, 3⟩, some ⟨.tr (eL [p_high]), 39, 3⟩] rfl rfl ?_; refine PR.callM true [] (w_I_EncodeKey N [p_high] r10 h_11) rfl Tryz.call54 rfl ⟨.own rfl (by first | decide | exact List.not_mem_nil) rfl rfl, trivial⟩ rfl trivial (fun _ => ⟨trivial, flat_nil⟩) rfl ?_; (iterate 2 refine PR.op rfl (Rd.asnT rfl) ?_); refine PR.nil ?_; refine PT.done ?_; refine PL.nil ?_; refine thA_n ?_; exact ⟨(), trivial, [], ⟨rfl, rfl, trivial, ⟨.t _, .t _, .t _, trivial⟩⟩⟩
    refine PT.seg ?_; refine PR.ef rfl rfl (Ef.litM (α := I_Value) [p_high] [_] rfl rfl (by decide) rfl rfl rfl rfl) ?_; refine PR.nm (.os 3 0 1) [some ⟨.mx [iA p_low.kind, iA p_low.num, sA p_low.text], 39, 0⟩, some ⟨.mx [iA p_high.kind, iA p_high.num, sA p_high.text], 39, 0⟩, some ⟨.tr (eL [p_low]), 39, 3⟩, some ⟨.tr (eL [p_high]), 39, 3⟩] rfl rfl ?_; refine PR.callM true [] (w_I_EncodeKey N [p_low] r8 h_9) rfl Tryz.call54 rfl ⟨.own rfl (by first | decide | exact List.not_mem_nil) rfl rfl, trivial⟩ rfl trivial (fun _ => ⟨trivial, flat_nil⟩) rfl ?_; refine PR.callM true [] (w_I_EncodeKey N [p_high] r10 h_11) rfl Tryz.call54 rfl ⟨.own rfl (by first | decide | exact List.not_mem_nil) rfl rfl, trivial⟩ rfl trivial (fun _ => ⟨trivial, flat_nil⟩) rfl ?_; (iterate 2 refine PR.op rfl (Rd.asnT rfl) ?_); refine PR.nil ?_; refine PT.done ?_; refine PL.nil ?_; refine thA_n ?_; exact ⟨(), trivial, [], ⟨rfl, rfl, trivial, ⟨.t _, .t _, .t _, trivial⟩⟩⟩
  rintro ⟨⟩ -
  refine PC.seq ?_; refine PC.region ?_; refine PL.op rfl (Rd.asnT rfl) ?_; refine PL.nil ?_; refine thA_n ?_; (iterate 2 refine PC.seq ?_); refine PC.region ?_; refine PL.op rfl (Rd.moveT rfl) ?_; refine PL.op rfl (Rd.lenT rfl) ?_; refine PL.op rfl (Rd.moveT rfl) ?_; refine PL.nil ?_; refine thA_n ?_; obtain ⟨o28, h_29, hh0⟩ := bind_some hh0; refine PC.cutE hs (fun x : (List Int) => [(9, .os 0 0 x.length)]) (fun x => [⟨.tr (eL x), 3, 1⟩]) (fun x => m_I_SearchPairs_k1 N x = some r) ?_ ?_
  · refine PC.block ?_; refine PC.loop hs (fun x : Nat × (Int × (List Int)) => [(7, sA r8), (8, sA r10), (9, .os 0 0 x.2.2.length), (31, sL p_list), (32, iA (p_list.length : Int)), (33, iA x.2.1)]) (fun x => [⟨.tr (eL x.2.2), 3, 1⟩]) (fun x => loopM (β := (List Int)) (fun s : Int × (List Int) => m_I_SearchPairs_b1 N p_list r8 r10 s.1 s.2) x.1 x.2 = some o28) (fun x => x.1) (N, ((0 : Int), ([] : List Int))) [none] ⟨rfl, rfl, ⟨ow_nil _, trivial⟩, ⟨.t _, .t _, .osn rfl, .t _, .t _, .t _, trivial⟩⟩ h_29 ?_
    rintro ⟨f30_, i12, v13⟩ h_32
    obtain ⟨f30, y31, rfl, hh1, kk1⟩ := loopM_some h_32
    replace hh1 : m_I_SearchPairs_b1 N p_list r8 r10 i12 v13 = some y31 := hh1
    unfold m_I_SearchPairs_b1 at hh1; refine PC.seq ?_; refine PC.region ?_; refine PL.op rfl (Rd.lss rfl rfl) ?_; refine PL.nil ?_; refine thA_n ?_; refine PC.seq ?_; rcases cond_some hh1 with ⟨h_35, hh1⟩ | ⟨h_35, hh1⟩; rotate_left
    · refine PC.cond_false rfl h_35 ?_; refine PC.exit ?_; (iterate 2 refine thA_e ?_); refine inA_eq rfl ?_; refine thA_n ?_; obtain rfl := some_in hh1; obtain rfl : (v13 : (List Int)) = o28 := kk1; exact ⟨v13, hh0, [some 0], ⟨rfl, rfl, ⟨⟨_, rfl, rfl, rfl, .tr _⟩, trivial⟩, ⟨.os rfl, trivial⟩⟩⟩
    refine PC.cond_true rfl h_35 ?_; refine PC.skip ?_; refine thA_n ?_; refine PC.seq ?_; refine PC.block ?_; refine PC.seq ?_; obtain ⟨x36, h_37, hh1⟩ := bind_some hh1; refine PC.region ?_; refine PL.op rfl (Rd.ixM rfl rfl h_37) ?_; refine PL.op rfl (Rd.elMR rfl h_37 rfl rfl) ?_; refine PL.ef rfl (Ef.alloc rfl rfl) ?_; refine PL.nm (.op 1 0) [some ⟨.tr (eL v13), 3, 1⟩, some ⟨.mx [sA ByteArray.empty, iA (0 : Int)], 53, 0⟩] rfl rfl ?_; refine PL.store rfl rfl rfl rfl rfl rfl rfl ?_; refine PL.nO [some ⟨.tr (eL v13), 3, 1⟩, some ⟨.mx [sA x36.key, iA x36.row], 53, 0⟩] rfl ?_; refine PL.nil ?_; refine thA_n ?_; refine PC.seq ?_; rcases cond_some hh1 with ⟨h_38, hh1⟩ | ⟨h_38, hh1⟩
    · refine PC.region ?_; refine PL.op rfl (Rd.fieldO rfl rfl) ?_; refine PL.op rfl (Rd.loadO rfl rfl rfl) ?_; refine PL.op rfl (Rd.moveT rfl) ?_; refine PL.op rfl (Rd.geqS rfl rfl) ?_; refine PL.op rfl (Rd.moveT rfl) ?_; (iterate 4 refine PL.guard_off rfl rfl (not_t h_38) ?_); refine PL.op rfl (Rd.pick_f rfl (not_t h_38)) ?_; refine PL.nil ?_; refine thA_n ?_; refine PC.cond_false rfl rfl ?_; refine PC.skip ?_; refine inA_n ?_; refine thA_n ?_; obtain ⟨n39, h_40, hh1⟩ := bind_some hh1; refine PC.region ?_; refine PL.op rfl (Rd.addM rfl rfl h_40) ?_; refine PL.op rfl (Rd.moveT rfl) ?_; refine PL.nil ?_; obtain rfl := some_in hh1; refine thA_n ?_; exact ⟨(f30, (n39, v13)), Nat.lt_succ_self _, kk1, [some 0], ⟨rfl, rfl, ⟨⟨_, rfl, rfl, rfl, .tr _⟩, trivial⟩, ⟨.t _, .t _, .os rfl, .t _, .t _, .t _, trivial⟩⟩⟩
    refine PC.region ?_; refine PL.op rfl (Rd.fieldO rfl rfl) ?_; refine PL.op rfl (Rd.loadO rfl rfl rfl) ?_; refine PL.op rfl (Rd.moveT rfl) ?_; refine PL.op rfl (Rd.geqS rfl rfl) ?_; refine PL.op rfl (Rd.moveT rfl) ?_; refine PL.guard_on rfl (not_f h_38) ?_; refine PL.op rfl (Rd.fieldO rfl rfl) ?_; refine PL.guard_on rfl (not_f h_38) ?_; refine PL.op rfl (Rd.loadO rfl rfl rfl) ?_; refine PL.guard_on rfl (not_f h_38) ?_; refine PL.op rfl (Rd.moveT rfl) ?_; refine PL.guard_on rfl (not_f h_38) ?_; refine PL.op rfl (Rd.leqS rfl rfl) ?_; refine PL.op rfl (Rd.pick_t rfl (not_f h_38)) ?_; refine PL.nil ?_; refine thA_n ?_; rcases cond_some hh1 with ⟨h_41, hh1⟩ | ⟨h_41, hh1⟩
    · refine PC.cond_false rfl (not_t h_41) ?_; refine PC.skip ?_; refine inA_n ?_; refine thA_n ?_; obtain ⟨n42, h_43, hh1⟩ := bind_some hh1; refine PC.region ?_; refine PL.op rfl (Rd.addM rfl rfl h_43) ?_; refine PL.op rfl (Rd.moveT rfl) ?_; refine PL.nil ?_; obtain rfl := some_in hh1; refine thA_n ?_; exact ⟨(f30, (n42, v13)), Nat.lt_succ_self _, kk1, [some 0], ⟨rfl, rfl, ⟨⟨_, rfl, rfl, rfl, .tr _⟩, trivial⟩, ⟨.t _, .t _, .os rfl, .t _, .t _, .t _, trivial⟩⟩⟩
    refine PC.cond_true rfl (not_f h_41) ?_; obtain ⟨xs44, h_45, hh1⟩ := bind_some hh1; refine PC.region ?_; refine PL.op rfl (Rd.moveO rfl) ?_; refine PL.op rfl (Rd.fieldO rfl rfl) ?_; refine PL.op rfl (Rd.loadO rfl rfl rfl) ?_; refine PL.ef rfl (Ef.litM (α := Int) [x36.row] [_] rfl rfl (by decide) rfl rfl rfl rfl) ?_; refine PL.nm (.os 2 0 1) [some ⟨.tr (eL v13), 3, 1⟩, some ⟨.mx [sA x36.key, iA x36.row], 53, 0⟩, some ⟨.tr (eL [x36.row]), 3, 1⟩] rfl rfl ?_; refine PL.apM hs rfl rfl rfl rfl (SrcA.ownE rfl rfl rfl) rfl rfl rfl rfl h_45 ?_; refine PL.nm (.os 3 0 xs44.length) [none, some ⟨.mx [sA x36.key, iA x36.row], 53, 0⟩, some ⟨.tr (eL [x36.row]), 3, 1⟩, some ⟨.tr (eL xs44), 3, 1⟩] rfl rfl ?_; refine PL.op rfl (Rd.asnO rfl) ?_; refine PL.nil ?_; refine inA_n ?_; refine thA_n ?_; obtain ⟨n46, h_47, hh1⟩ := bind_some hh1; refine PC.region ?_; refine PL.op rfl (Rd.addM rfl rfl h_47) ?_; refine PL.op rfl (Rd.moveT rfl) ?_; refine PL.nil ?_; obtain rfl := some_in hh1; refine thA_n ?_; exact ⟨(f30, (n46, xs44)), Nat.lt_succ_self _, kk1, [some 3], ⟨rfl, rfl, ⟨⟨_, rfl, rfl, rfl, .tr _⟩, trivial⟩, ⟨.t _, .t _, .os rfl, .t _, .t _, .t _, trivial⟩⟩⟩
  clear hh0
  rintro v27 hh0
  replace hh0 : m_I_SearchPairs_k1 N v27 = some r := hh0
  unfold m_I_SearchPairs_k1 at hh0; refine thA_n ?_; refine PC.seq ?_; obtain ⟨xs33, h_34, hh0⟩ := bind_some hh0; refine PC.region ?_; refine PL.op rfl (Rd.moveO rfl) ?_; refine PL.callM false [0] (w_slices_Sort_int N v27 xs33 h_34) rfl Tryz.call70 rfl ⟨.os rfl, trivial⟩ rfl ⟨⟨_, rfl, rfl, rfl, .tr _⟩, trivial⟩ (fun h => by cases h) ?_; refine PL.nm (.tup []) [some ⟨.tr (eL xs33), 3, 1⟩] rfl rfl ?_; refine PL.nil ?_; refine thA_n ?_; refine PC.seq ?_; refine PC.region ?_; refine PL.op rfl (Rd.moveO rfl) ?_; refine PL.op rfl (Rd.asnO rfl) ?_; refine PL.nil ?_; refine thA_n ?_; refine PC.ret ?_; obtain rfl := some_in hh0; exact FinA.mk (r := .os 0 0 xs33.length) (bl := [⟨.tr (eL xs33), 3, 1⟩]) [some 0] (.inl rfl) rfl (rl := [.tmp 6]) (.tmp .nil) rfl rfl rfl (.osE rfl (by simp only [List.length_set, len_slices_Sort_int N _ _ h_34])) ⟨⟨_, rfl, rfl, rfl, .tr _⟩, trivial⟩ ⟨rfl, rfl⟩
end V
end Go.Proofs.YtkjnnifnmoekjaaGreatDoor
