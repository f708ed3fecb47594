/- What the functions of the space compute: validity, pages in use, held pages. No condition. -/
import Derived.Test.YtambkpacecjheaaPlSp
namespace Go.Proofs.Ytambkpacecjheaa
namespace V
set_option linter.unusedVariables false
set_option linter.unusedSimpArgs false
set_option maxHeartbeats 1000000
/-- A loop asks the same of each number. -/
theorem all_ok {body : Int → Option (Int ⊕ (Unit ⊕ Bool))} {N n : Nat} (d : Int) (G : Nat → Prop) (hN : n < N) (h : ∀ i, i < n → (∀ k, k < i → G k) → ok (body ((i : Int) + d)) fun y => (y = .inl ((i : Int) + d + 1) ∧ G i) ∨ (y = .inr (.inr false) ∧ ¬ G i)) (he : body ((n : Int) + d) = some (.inr (.inl ()))) :
    ok (loopM body N d) fun o => (o = .inl () ∧ ∀ k, k < n → G k) ∨ (o = .inr false ∧ ¬ ∀ k, k < n → G k) := by
  refine ok.each n (fun i s => s = (i : Int) + d ∧ ∀ k, k < i → G k) _ ?_ ?_ N 0 d (Nat.zero_le _) ⟨by simp, fun k h => by omega⟩ (by omega)
  · rintro i s hi ⟨rfl, hg⟩
    refine (h i hi hg).mono ?_
    rintro _ (⟨rfl, h1⟩ | ⟨rfl, h1⟩)
    · exact ⟨by simp; omega, allG hg h1⟩
    · exact .inr ⟨rfl, fun hh => h1 (hh i hi)⟩
  · rintro s ⟨rfl, hg⟩
    rw [he]
    exact ok.some (.inl ⟨rfl, hg⟩)
theorem isin_ok {N : Nat} {xs : List Int} {n : Int} {body : Int → Option (Int ⊕ (Unit ⊕ Bool))} {k : Option Bool} (hN : xs.length < N)
    (h : ∀ i (h1 : i < xs.length), body (i : Int) = if xs[i] = n then some (.inr (.inr true)) else some (.inl ((i : Int) + 1))) (he : body (xs.length : Int) = some (.inr (.inl ()))) (hk : k = some false) :
    ((loopM body N (0 : Int)).bind fun o => match o with | .inl e => k | .inr v => some v) = some (decide (n ∈ xs)) := by
  refine bool_eq ?_
  refine ok.call (P := fun o => match o with | .inl _ => n ∉ xs | .inr v => v = true ∧ n ∈ xs) (ok.each xs.length (fun i s => s = (i : Int) ∧ n ∉ xs.take i) _ ?_ ?_ N 0 0 (Nat.zero_le _) ⟨rfl, by simp⟩ (by omega)) ?_
  · rintro i s hi ⟨rfl, hg⟩
    rw [h i hi]
    split
    · rename_i e
      exact ok.some ⟨rfl, e ▸ List.getElem_mem hi⟩
    · rename_i e
      refine ok.some ⟨by simp, fun hh => ?_⟩
      rcases (mem_take_succ hi).1 hh with h1 | h1
      · exact hg h1
      · exact e h1.symm
  · rintro s ⟨rfl, hg⟩
    rw [he]
    rw [List.take_length] at hg
    exact ok.some hg
  · rintro (u | r) h
    · rw [hk]; exact ok.some ⟨fun e => (by cases e), fun e => (h e).elim⟩
    · exact ok.some (by simp [h.1, h.2])
theorem isInS {N : Nat} {xs : List Int} (hN : xs.length < N) (hl : xs.length ≤ 5000000) (n : Int) : m_S_isIn N xs n = some (decide (n ∈ xs)) := by
  unfold m_S_isIn
  refine isin_ok hN (fun i hi => ?_) ?_ rfl
  · show m_S_isIn_b1 N xs n (i : Int) = _
    unfold m_S_isIn_b1
    rw [decide_eq_true (show (i : Int) < (xs.length : Int) by omega), cond_true, ixI_nat hi]
    simp only [Option.bind_some]
    split
    · rename_i e; rw [decide_eq_true e]; rfl
    · rename_i e; rw [decide_eq_false e, cond_false, chk_eq (by omega)]; rfl
  · show m_S_isIn_b1 N xs n _ = _
    unfold m_S_isIn_b1
    rw [decide_eq_false (by omega)]; rfl
theorem inRange_eq (N : Nat) (a l h : Int) : m_S_inRange N a l h = some (decide (l ≤ a ∧ a ≤ h)) := by
  unfold m_S_inRange
  by_cases h1 : l ≤ a <;> by_cases h2 : a ≤ h <;> simp [h1, h2]
theorem some_all {s : I_Space} (h : ∀ k, k < s.free.length → gF s k) : ∀ k, gF s k := fun k => by
  by_cases hk : k < s.free.length
  · exact h k hk
  · intro x hx; rw [List.getElem?_eq_none (by omega)] at hx; cases hx
theorem some_allH {s : I_Space} (h : ∀ k, k < s.held.length → gH s k) : ∀ k, gH s k := fun k => by
  by_cases hk : k < s.held.length
  · exact h k hk
  · intro x hx; rw [List.getElem?_eq_none (by omega)] at hx; cases hx
def gFs (s : I_Space) : Prop := ∀ k, gF s k
noncomputable instance (s : I_Space) : Decidable (gFs s) := Classical.propDecidable _
section
variable {N : Nat} (hN : 100000000 ≤ N)
include hN
theorem ascending_eq {s : I_Space} (hf : s.free.length ≤ 5000000) : m_S_ascending N s.free 0 (s.pages - 1) = some (decide (gFs s)) := by
  refine bool_eq ?_
  unfold m_S_ascending
  refine ok.call (all_ok (n := s.free.length - 1) 1 (fun k => ∀ x y, s.free[k]? = some x → s.free[k + 1]? = some y → x < y) (by omega) ?_ ?_) ?_
  · intro i hi hg
    show ok (m_S_ascending_b1 N s.free ((i : Int) + 1)) _
    unfold m_S_ascending_b1
    refine ok.ift (by omega) (ok.ix (by omega) (by omega) fun q hq he => ok.chk (by omega) (ok.ix (by omega) (by omega) fun q' hq' he' => ?_))
    obtain rfl : q = i + 1 := by omega
    obtain rfl : q' = i := by omega
    have e1 := List.getElem?_eq_getElem hq
    have e2 := List.getElem?_eq_getElem hq'
    refine ok.ite (fun hc => ok.some (.inr ⟨rfl, fun h => ?_⟩)) fun hc => ok.chk (by omega) (ok.some (.inl ⟨rfl, fun x y h1 h2 => ?_⟩))
    · have := h _ _ e2 e1; omega
    · rw [e2] at h1; rw [e1] at h2; cases h1; cases h2; omega
  · show m_S_ascending_b1 N s.free _ = _
    unfold m_S_ascending_b1
    rw [decide_eq_false (by omega)]; rfl
  · rintro _ (⟨rfl, h⟩ | ⟨rfl, h⟩)
    · unfold m_S_ascending_k1 m_S_allIn
      refine ok.call (P := fun r => r = true ↔ gFs s) ?_ fun r hr => ok.some hr
      refine ok.call (all_ok (n := s.free.length) 0 (fun k => ∀ x, s.free[k]? = some x → 0 ≤ x ∧ x < s.pages) (by omega) ?_ ?_) ?_
      · intro i hi hg
        show ok (m_S_allIn_b1 N s.free 0 (s.pages - 1) ((i : Int) + 0)) _
        unfold m_S_allIn_b1
        refine ok.ift (by omega) (ok.ix (by omega) (by omega) fun q hq he => ?_)
        obtain rfl : q = i := by omega
        have e1 := List.getElem?_eq_getElem hq
        refine ok.eq (inRange_eq N _ _ _) (ok.ite (fun hc => ok.chk (by omega) (ok.some (.inl ⟨rfl, fun x hx => ?_⟩))) fun hc => ok.some (.inr ⟨rfl, fun h => ?_⟩))
        · rw [e1] at hx; cases hx; omega
        · have := h _ e1; omega
      · show m_S_allIn_b1 N s.free 0 (s.pages - 1) _ = _
        unfold m_S_allIn_b1
        rw [decide_eq_false (by omega)]; rfl
      · rintro _ (⟨rfl, h2⟩ | ⟨rfl, h2⟩)
        · refine ok.some ⟨fun _ => some_all fun k hk x hx => ?_, fun _ => rfl⟩
          refine ⟨(h2 k hk x hx).1, (h2 k hk x hx).2, fun y h0 hy => ?_⟩
          exact h (k - 1) (by omega) y x hy (by rw [show k - 1 + 1 = k by omega]; exact hx)
        · exact ok.some ⟨fun e => (by cases e), fun e => (h2 fun k hk x hx => ⟨(e k x hx).1, (e k x hx).2.1⟩).elim⟩
    · exact ok.some ⟨fun e => (by cases e), fun e => (h fun k hk x y hx hy => (e (k + 1) y hy).2.2 x (by omega) hx).elim⟩
theorem validS {s : I_Space} (hf : s.free.length ≤ 5000000) : m_S_validSpace N s = some (decide (vS s)) := by
  refine bool_eq ?_
  unfold m_S_validSpace
  refine ok.eq (inRange_eq N _ _ _) (ok.ite (fun hp => ?_) fun hp => ok.some ⟨fun e => (by cases e), fun h => (hp ⟨h.lo, h.hi⟩).elim⟩)
  refine ok.chk (by omega) (ok.eq (ascending_eq hN hf) (ok.ite (fun hF => ?_) fun hF => ok.some ⟨fun e => (by cases e), fun h => (hF h.fr).elim⟩))
  refine ok.ite (fun hl => ok.some ⟨fun e => (by cases e), fun h => (by have := h.lenH; omega)⟩) fun hl => ?_
  refine ok.call (all_ok (n := s.held.length) 0 (gH s) (by omega) ?_ ?_) ?_
  · intro i hi hg
    show ok (m_S_validSpace_b3 N s ((i : Int) + 0)) _
    rw [Int.add_zero]
    have hx := List.getElem?_eq_getElem hi
    unfold m_S_validSpace_b3
    refine ok.ift (by omega) (ok.eq (ixI_nat hi) (ok.chk (by omega) (ok.eq (inRange_eq N _ _ _) (ok.ite (fun h1 => ?_) fun h1 => ok.some (.inr ⟨rfl, fun h => (by have := h _ hx; omega)⟩)))))
    refine ok.eq (isInS (by omega) hf _) (ok.ite (fun h2 => ok.some (.inr ⟨rfl, fun h => (h _ hx).2.2.1 h2⟩)) fun h2 => ?_)
    refine ok.eq (inRange_eq N _ _ _) (ok.ite (fun h3 => ?_) fun h3 => ok.some (.inr ⟨rfl, fun h => h3 ⟨(h _ hx).2.2.2.2.1, (h _ hx).2.2.2.2.2.1⟩⟩))
    refine ok.ite (fun h0 => ?_) fun h0 => ?_
    · refine ok.chk (by omega) (ok.ix (by omega) (by omega) fun q hq he => ?_)
      obtain rfl : i = q + 1 := by omega
      have hy := List.getElem?_eq_getElem hq
      refine ok.ite (fun h4 => ok.some (.inr ⟨rfl, fun h => (by have := (h _ hx).2.2.2.2.2.2 _ (by omega) hy; omega)⟩)) fun h4 => ?_
      refine ok.call (all_ok (n := q + 1) 0 (fun k => ∀ y, s.held[k]? = some y → y.page ≠ s.held[q + 1].page) (by omega) ?_ ?_) ?_
      · intro j hj _
        show ok (m_S_validSpace_b4 N s ((q + 1 : Nat) : Int) s.held[q + 1] ((j : Int) + 0)) _
        rw [Int.add_zero]
        unfold m_S_validSpace_b4
        have hz := List.getElem?_eq_getElem (show j < s.held.length by omega)
        refine ok.ift (by omega) (ok.eq (ixI_nat (by omega)) (ok.ite (fun h5 => ok.some (.inr ⟨rfl, fun h => h _ hz h5⟩)) fun h5 => ok.chk (by omega) (ok.some (.inl ⟨rfl, fun y hy' => ?_⟩))))
        rw [hz] at hy'; cases hy'; exact h5
      · show m_S_validSpace_b4 N s _ _ _ = _
        unfold m_S_validSpace_b4
        rw [decide_eq_false (by omega)]; rfl
      · rintro _ (⟨rfl, h5⟩ | ⟨rfl, h5⟩)
        · unfold m_S_validSpace_k4
          refine ok.chk (by omega) (ok.some (.inl ⟨rfl, fun x hx' => ?_⟩))
          rw [hx] at hx'; cases hx'
          refine ⟨h1.1, by omega, h2, fun y hy' => ?_, h3.1, h3.2, fun y _ hy' => ?_⟩
          · obtain ⟨k, hk⟩ := List.mem_iff_getElem?.1 hy'
            rw [List.getElem?_take] at hk
            split at hk
            · exact h5 k (by omega) y hk
            · cases hk
          · have hy' : s.held[q]? = some y := hy'
            rw [hy] at hy'; cases hy'; omega
        · refine ok.some (.inr ⟨rfl, fun h => h5 fun k hk y hy' => (h _ hx).2.2.2.1 y ?_⟩)
          exact List.mem_iff_getElem?.2 ⟨k, by rw [List.getElem?_take, if_pos hk]; exact hy'⟩
    · obtain ⟨M, rfl⟩ : ∃ M, N = M + 1 := ⟨N - 1, by omega⟩
      refine ok.eq (v := ()) rfl ?_
      unfold m_S_validSpace_k5
      refine ok.chk (by omega) (ok.some (.inl ⟨rfl, fun x hx' => ?_⟩))
      rw [hx] at hx'; cases hx'
      obtain rfl : i = 0 := by omega
      exact ⟨h1.1, by omega, h2, fun y hy' => (by simp at hy'), h3.1, h3.2, fun y h _ => (by omega)⟩
  · show m_S_validSpace_b3 N s _ = _
    unfold m_S_validSpace_b3
    rw [decide_eq_false (by omega)]; rfl
  · rintro _ (⟨rfl, h⟩ | ⟨rfl, h⟩)
    · exact ok.some ⟨fun _ => .of hp.1 hp.2 (fun k _ => hF k) h, fun _ => rfl⟩
    · exact ok.some ⟨fun e => (by cases e), fun e => (h fun k _ => e.hd k).elim⟩
theorem validSS {s : I_Space} (hf : s.free.length ≤ 5000000) : m_S_ValidSpace N s = some (decide (vS s)) := by
  unfold m_S_ValidSpace; rw [validS hN hf]; rfl
theorem validI {s : I_Space} (hf : s.free.length ≤ 5000000) (hh : s.held.length ≤ 5000000) : m_I_ValidSpace N s = some (decide (vS s)) := by
  refine bool_eq ?_
  unfold m_I_ValidSpace
  refine ok.call (inUse_ok hN hf hh) fun r hr => ?_
  refine ok.arrM (by decide) (ok.arrM hr.1 (ok.some hr.2.1))
end
/-- The pages in use below a number. -/
noncomputable def pgs (s : I_Space) : Nat → List Int
  | 0 => []
  | n + 1 => if usd s n then pgs s n ++ [(n : Int)] else pgs s n
theorem pgs_len (s : I_Space) : ∀ n, (pgs s n).length ≤ n
  | 0 => Nat.le_refl _
  | n + 1 => by
    have := pgs_len s n
    unfold pgs; split
    · simp; omega
    · omega
theorem pgs_mem (s : I_Space) {x : Int} : ∀ n, x ∈ pgs s n ↔ usd s x ∧ x < n
  | 0 => by simp only [pgs, List.not_mem_nil, false_iff]; exact fun h => by have := h.1.1; omega
  | n + 1 => by
    have ih := pgs_mem s (x := x) n
    unfold pgs; split
    · rename_i hu
      rw [List.mem_append, ih, List.mem_singleton]
      constructor
      · rintro (h | rfl)
        · exact ⟨h.1, by omega⟩
        · exact ⟨hu, by omega⟩
      · rintro ⟨h1, h2⟩
        by_cases h : x = n
        · exact .inr h
        · exact .inl ⟨h1, by omega⟩
    · rename_i hu
      rw [ih]
      exact ⟨fun h => ⟨h.1, by omega⟩, fun h => ⟨h.1, by
        have : x ≠ n := fun e => hu (e ▸ h.1)
        omega⟩⟩
noncomputable def pagesP (s : I_Space) : List Int := if vS s then pgs s s.pages.toNat else []
theorem pagesP_len (s : I_Space) : (pagesP s).length ≤ 16 := by
  unfold pagesP; split
  · rename_i h; have := pgs_len s s.pages.toNat; have := h.hi; omega
  · simp
theorem pagesP_mem {s : I_Space} (h : vS s) {x : Int} : x ∈ pagesP s ↔ usd s x := by
  unfold pagesP; rw [if_pos h, pgs_mem]
  exact ⟨fun h => h.1, fun h => ⟨h, by have := h.2.1; have := h.1; omega⟩⟩
section
variable {N : Nat} (hN : 100000000 ≤ N)
include hN
theorem pagesI {s : I_Space} (hf : s.free.length ≤ 5000000) (hh : s.held.length ≤ 5000000) : m_I_PagesInUse N s = some (pagesP s) := by
  refine ok.val ?_
  unfold m_I_PagesInUse
  refine ok.call (inUse_ok hN hf hh) ?_
  rintro ⟨v, b⟩ ⟨h1, h2, h3⟩
  dsimp only at h1 h2 h3 ⊢
  refine ok.arrM (by decide) (ok.arrM h1 (ok.cond (fun hb => ?_) fun hb => ok.some ?_))
  · have hv := h2.1 hb
    have hu := h3 hb
    have hlo := hv.lo
    have hhi := hv.hi
    refine ok.call (ok.each s.pages.toNat (fun i st => st = ((i : Int), pgs s i)) (fun e => e = pagesP s) ?_ ?_ N 0 _ (Nat.zero_le _) rfl (by omega)) fun e he => ?_
    · rintro i _ hi rfl
      unfold m_I_PagesInUse_b1
      have hpl := pgs_len s i
      dsimp only
      refine ok.ift (by omega) (ok.ixA h1 (by omega) (by omega) fun q hq he => ?_)
      obtain rfl : i = q := by omega
      have hU := hu.2 i hq
      refine ok.cond (fun hc => ?_) fun hc => ?_
      · refine ok.app ⟨by simp; omega, by simp; omega⟩ (ok.chk (by omega) (ok.some ?_))
        show (_, _) = (_, _)
        rw [pgs, if_pos (hU.1 hc)]; simp
      · refine ok.chk (by omega) (ok.some ?_)
        show (_, _) = (_, _)
        rw [pgs, if_neg fun h => by rw [hU.2 h] at hc; cases hc]; simp
    · rintro _ rfl
      unfold m_I_PagesInUse_b1
      refine ok.iff (by dsimp only; omega) (ok.some ?_)
      show _ = _
      unfold pagesP; rw [if_pos hv]
    · exact ok.some he
  · unfold pagesP; rw [if_neg fun h => by rw [h2.2 h] at hb; cases hb]
theorem pagesS {s : I_Space} (hf : s.free.length ≤ 5000000) : m_S_PagesInUse N s = some (pagesP s) := by
  refine ok.val ?_
  unfold m_S_PagesInUse
  refine ok.eq (validS hN hf) (ok.ite (fun hv => ?_) fun hv => ok.some (by unfold pagesP; rw [if_neg hv]))
  have hlo := hv.lo
  have hhi := hv.hi
  have hlh := hv.lenH
  refine ok.call (ok.each s.pages.toNat (fun i st => st = ((i : Int), pgs s i)) (fun e => e = pagesP s) ?_ ?_ N 0 _ (Nat.zero_le _) rfl (by omega)) fun e he => ?_
  · rintro i _ hi rfl
    unfold m_S_PagesInUse_b2
    have hpl := pgs_len s i
    dsimp only
    refine ok.ift (by omega) (ok.eq (isInS (by omega) hf _) ?_)
    refine ok.call (ok.each s.held.length (fun j st => (st.1 = true ↔ (i : Int) ∉ s.free ∧ ∀ h ∈ s.held.take j, h.page ≠ (i : Int)) ∧ st.2 = (j : Int)) (fun e => e = true ↔ usd s i) ?_ ?_ N 0 _ (Nat.zero_le _) ⟨by simp, rfl⟩ (by omega)) fun e he => ?_
    · rintro j ⟨b, _⟩ hj ⟨hb, rfl⟩
      dsimp only at hb ⊢
      unfold m_S_PagesInUse_b3
      refine ok.ift (by omega) (ok.cond (fun hc => ok.eq (ixI_nat hj) (ok.chk (by omega) (ok.some ⟨?_, by simp⟩))) fun hc => ok.chk (by omega) (ok.some ⟨?_, by simp⟩))
      · have hb := hb.1 hc
        simp only [Bool.not_eq_true', decide_eq_false_iff_not]
        constructor
        · refine fun h => ⟨hb.1, fun y hy => ?_⟩
          rcases (mem_take_succ hj).1 hy with h1 | rfl
          · exact hb.2 y h1
          · exact h
        · exact fun h => h.2 _ ((mem_take_succ hj).2 (.inr rfl))
      · simp only [Bool.false_eq_true, false_iff]
        intro h
        rw [hb.2 ⟨h.1, fun y hy => h.2 y ((mem_take_succ hj).2 (.inl hy))⟩] at hc
        cases hc
    · rintro ⟨b, _⟩ ⟨hb, rfl⟩
      dsimp only at hb ⊢
      unfold m_S_PagesInUse_b3
      refine ok.iff (by omega) (ok.some ?_)
      rw [List.take_length] at hb
      exact hb.trans ⟨fun h => ⟨by omega, by omega, h.1, h.2⟩, fun h => ⟨h.2.2.1, h.2.2.2⟩⟩
    · unfold m_S_PagesInUse_k3
      refine ok.cond (fun hc => ?_) fun hc => ?_
      · refine ok.app ⟨by simp; omega, by simp; omega⟩ (ok.chk (by omega) (ok.some ?_))
        show (_, _) = (_, _)
        rw [pgs, if_pos (he.1 hc)]; simp
      · refine ok.chk (by omega) (ok.some ?_)
        show (_, _) = (_, _)
        rw [pgs, if_neg fun h => by rw [he.2 h] at hc; cases hc]; simp
  · rintro _ rfl
    unfold m_S_PagesInUse_b2
    refine ok.iff (by dsimp only; omega) (ok.some ?_)
    show _ = _
    unfold pagesP; rw [if_pos hv]
  · exact ok.some he
end
/-- A space with one more held page. -/
def nextS (s : I_Space) (p t : Int) : I_Space := ⟨s.pages, s.free, s.held ++ [⟨p, t⟩]⟩
theorem next_held {s : I_Space} {p t : Int} {k : Nat} (h : k < s.held.length) : (nextS s p t).held[k]? = s.held[k]? := List.getElem?_append_left h
theorem next_last {s : I_Space} {p t : Int} : (nextS s p t).held[s.held.length]? = some ⟨p, t⟩ := by
  show (s.held ++ [_])[s.held.length]? = _
  rw [List.getElem?_append_right (Nat.le_refl _)]; simp
theorem next_take {s : I_Space} {p t : Int} {k : Nat} (h : k ≤ s.held.length) : (nextS s p t).held.take k = s.held.take k := List.take_append_of_le_length h
theorem next_gH {s : I_Space} {p t : Int} {k : Nat} (h : k < s.held.length) : gH (nextS s p t) k ↔ gH s k := by
  unfold gH
  rw [next_held h, next_take (Nat.le_of_lt h), next_held (show k - 1 < s.held.length by omega)]
  exact Iff.rfl
theorem next_iff {s : I_Space} {p t : Int} : vS (nextS s p t) ↔ vS s ∧ usd s p ∧ 0 ≤ t ∧ t ≤ 9999 ∧ ∀ y, 0 < s.held.length → s.held[s.held.length - 1]? = some y → y.since ≤ t := by
  constructor
  · intro h
    have hs : vS s := .of h.lo h.hi (fun k _ => h.fr k) fun k hk => (next_gH hk).1 (h.hd k)
    obtain ⟨h1, h2, h3, h4, h5, h6, h7⟩ := h.hd _ _ next_last
    refine ⟨hs, ⟨h1, h2, h3, fun y hy => h4 y (by rw [next_take (Nat.le_refl _), List.take_length]; exact hy)⟩, h5, h6, fun y h0 hy => h7 y h0 ?_⟩
    rw [next_held (by omega)]; exact hy
  · rintro ⟨hs, hu, h5, h6, h7⟩
    refine .of hs.lo hs.hi (fun k _ => hs.fr k) fun k hk => ?_
    have hl : (nextS s p t).held.length = s.held.length + 1 := by simp [nextS]
    rcases Nat.lt_succ_iff_lt_or_eq.1 (hl ▸ hk) with h | rfl
    · exact (next_gH h).2 (hs.hd k)
    · intro x hx
      rw [next_last] at hx; cases hx
      refine ⟨hu.1, hu.2.1, hu.2.2.1, fun y hy => hu.2.2.2 y (by rw [next_take (Nat.le_refl _), List.take_length] at hy; exact hy), h5, h6, fun y h0 hy => h7 y h0 ?_⟩
      rw [next_held (by omega)] at hy; exact hy
def zS : I_Space := ⟨0, [], []⟩
noncomputable def holdP (s : I_Space) (p t : Int) : I_Space × Bool := if vS (nextS s p t) then (nextS s p t, true) else (zS, false)
theorem zS_v : vS zS := .of (by decide) (by decide) (fun k h => by cases h) fun k h => by cases h
theorem hold_cases (s : I_Space) (p t : Int) : holdP s p t = (zS, false) ∨ (vS (nextS s p t) ∧ holdP s p t = (nextS s p t, true)) := by
  unfold holdP; split
  · exact .inr ⟨‹_›, rfl⟩
  · exact .inl rfl
section
variable {N : Nat} (hN : 100000000 ≤ N)
include hN
omit hN in
theorem clone_eq {s : I_Space} (hf : s.free.length ≤ 5000000) (hh : s.held.length ≤ 5000000) : m_I_Space_clone N s = some s := by
  unfold m_I_Space_clone m_slices_Clone_int m_slices_Clone_I_Hold
  rw [appM_eq ⟨by simp; omega, by simp; omega⟩, appM_eq ⟨by simp; omega, by simp; omega⟩]; rfl
omit hN in
theorem copyInts_eq {l : List Int} (hf : l.length ≤ 5000000) : m_S_copyInts N l = some l := by
  unfold m_S_copyInts
  rw [appM_eq ⟨by simp; omega, by simp; omega⟩]; rfl
omit hN in
theorem copySpace_eq {s : I_Space} (hf : s.free.length ≤ 5000000) (hh : s.held.length ≤ 5000000) : m_S_copySpace N s = some s := by
  unfold m_S_copySpace
  rw [copyInts_eq hf, appM_eq ⟨by simp; omega, by simp; omega⟩]; rfl
theorem holdS {s : I_Space} (hf : s.free.length ≤ 4000000) (hh : s.held.length ≤ 4000000) (p t : Int) : m_S_HoldPage N s p t = some (holdP s p t) := by
  refine ok.val ?_
  unfold m_S_HoldPage
  refine ok.eq (validS hN (by omega)) (ok.ite (fun hv => ?_) fun hv => ok.some ?_)
  · refine ok.eq (copySpace_eq (by omega) (by omega)) (ok.app ⟨by simp; omega, by simp; omega⟩ ?_)
    refine ok.eq (validS hN (s := nextS s p t) (show s.free.length ≤ _ by omega)) (ok.ite (fun h => ok.some ?_) fun h => ok.some ?_)
    · unfold holdP; rw [if_pos h]; rfl
    · unfold holdP; rw [if_neg h]; rfl
  · unfold holdP; rw [if_neg fun h => hv (next_iff.1 h).1]; rfl
theorem holdI {s : I_Space} (hf : s.free.length ≤ 4000000) (hh : s.held.length ≤ 4000000) (p t : Int) : m_I_HoldPage N s p t = some (holdP s p t) := by
  refine ok.val ?_
  unfold m_I_HoldPage
  have bad : ¬ vS (nextS s p t) → ok (some ((I_Space.mk 0 ([] : List Int) ([] : List I_Hold)), false)) (fun r => r = holdP s p t) := fun h => ok.some (by unfold holdP; rw [if_neg h]; rfl)
  have good : vS (nextS s p t) → ok ((m_I_Space_clone N s).bind fun r => (appM 16 r.held [(I_Hold.mk p t)]).bind fun xs => some ((I_Space.mk r.pages r.free xs), true)) (fun r => r = holdP s p t) := fun h => by
    refine ok.eq (clone_eq (by omega) (by omega)) (ok.app ⟨by simp; omega, by simp; omega⟩ (ok.some ?_))
    unfold holdP; rw [if_pos h]; rfl
  refine ok.call (inUse_ok hN (by omega) (by omega)) ?_
  rintro ⟨v, b⟩ ⟨h1, h2, h3⟩
  dsimp only at h1 h2 h3 ⊢
  refine ok.arrM (by decide) (ok.arrM h1 (ok.cond (fun hb => ?_) fun hb => bad fun h => (by rw [h2.2 (next_iff.1 h).1] at hb; cases hb)))
  have hv := h2.1 hb
  have hu := h3 hb
  have hlo := hv.lo
  have hhi := hv.hi
  refine ok.ite (fun hc => bad fun h => (by have := (next_iff.1 h).2.1.1; omega)) fun hp0 => ?_
  refine ok.ite (fun hc => bad fun h => (by have := (next_iff.1 h).2.1.2.1; omega)) fun hp1 => ?_
  refine ok.ixA h1 (by omega) (by omega) fun q hq he => ?_
  have hU := hu.2 q hq
  rw [← he] at hU
  refine ok.cond (fun hc => ?_) fun hc => bad fun h => (by rw [hU.2 (next_iff.1 h).2.1] at hc; cases hc)
  have hU := hU.1 hc
  refine ok.ite (fun hc => bad fun h => (by have := (next_iff.1 h).2.2.1; omega)) fun ht0 => ?_
  refine ok.ite (fun hc => bad fun h => (by have := (next_iff.1 h).2.2.2.1; omega)) fun ht1 => ?_
  refine ok.ite (fun h0 => ?_) fun h0 => good (next_iff.2 ⟨hv, hU, by omega, by omega, fun y h => (by omega)⟩)
  refine ok.chk (by omega) (ok.ix (by omega) (by omega) fun q' hq' he' => ?_)
  have hy := List.getElem?_eq_getElem hq'
  obtain rfl : q' = s.held.length - 1 := by omega
  refine ok.ite (fun hc => bad fun h => ?_) fun hc => good (next_iff.2 ⟨hv, hU, by omega, by omega, fun y _ hy' => ?_⟩)
  · have := (next_iff.1 h).2.2.2.2 _ (by omega) hy; omega
  · rw [hy] at hy'; cases hy'; omega
end
end V
end Go.Proofs.Ytambkpacecjheaa
