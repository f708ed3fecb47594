/- Released pages, as plain data. No condition. -/
import Derived.Test.YtambkpacecjheaaPlSpD
import Derived.Test.YtambkpacecjheaaSpFa
namespace Go.Proofs.Ytambkpacecjheaa
namespace V
set_option linter.unusedVariables false
set_option linter.unusedSimpArgs false
set_option maxHeartbeats 1000000
/-- Validity, told of pairs. -/
structure vS' (s : I_Space) : Prop where
  lo : 0 ≤ s.pages
  hi : s.pages ≤ 16
  asc : s.free.Pairwise (· < ·)
  mem : ∀ x ∈ s.free, 0 ≤ x ∧ x < s.pages
  memH : ∀ h ∈ s.held, 0 ≤ h.page ∧ h.page < s.pages ∧ h.page ∉ s.free ∧ 0 ≤ h.since ∧ h.since ≤ 9999
  nd : (s.held.map I_Hold.page).Nodup
  up : s.held.Pairwise fun a b => a.since ≤ b.since
theorem up_le {xs : List I_Hold} (h : ∀ k x y, xs[k]? = some x → xs[k + 1]? = some y → x.since ≤ y.since) : ∀ (d i : Nat) (x y : I_Hold), xs[i]? = some x → xs[i + d + 1]? = some y → x.since ≤ y.since
  | 0, i, x, y, h1, h2 => h i x y h1 h2
  | d + 1, i, x, y, h1, h2 => by
    obtain ⟨h3, _⟩ := List.getElem?_eq_some_iff.1 h2
    have h4 : xs[i + d + 1]? = some xs[i + d + 1] := List.getElem?_eq_getElem (by omega)
    exact Int.le_trans (up_le h d i x _ h1 h4) (h _ _ _ h4 h2)
theorem vS.to {s : I_Space} (h : vS s) : vS' s := by
  refine ⟨h.lo, h.hi, h.asc, fun x => h.mem, fun x => h.memH, h.ndH, ?_⟩
  rw [List.pairwise_iff_getElem]
  intro i j hi hj hij
  obtain ⟨d, rfl⟩ : ∃ d, j = i + d + 1 := ⟨j - i - 1, by omega⟩
  exact up_le (fun k x y h1 h2 => (h.hd (k + 1) y h2).2.2.2.2.2.2 x (by omega) h1) d i _ _ (List.getElem?_eq_getElem hi) (List.getElem?_eq_getElem hj)
theorem vS'.to {s : I_Space} (h : vS' s) : vS s := by
  refine .of h.lo h.hi (fun k hk x hx => ?_) fun k hk x hx => ?_
  · have hm := h.mem x (List.mem_of_getElem? hx)
    refine ⟨hm.1, hm.2, fun y h0 hy => ?_⟩
    obtain ⟨h1, rfl⟩ := List.getElem?_eq_some_iff.1 hx
    obtain ⟨h2, rfl⟩ := List.getElem?_eq_some_iff.1 hy
    exact List.pairwise_iff_getElem.1 h.asc _ _ h2 h1 (by omega)
  · have hm := h.memH x (List.mem_of_getElem? hx)
    refine ⟨hm.1, hm.2.1, hm.2.2.1, fun y hy => ?_, hm.2.2.2.1, hm.2.2.2.2, fun y h0 hy => ?_⟩
    · obtain ⟨h1, rfl⟩ := List.getElem?_eq_some_iff.1 hx
      obtain ⟨i, hi, rfl⟩ := List.mem_iff_getElem.1 hy
      simp only [List.length_take] at hi
      rw [List.getElem_take]
      have := List.pairwise_iff_getElem.1 h.nd i k (by simp; omega) (by simpa using h1) (by omega)
      simpa using this
    · obtain ⟨h1, rfl⟩ := List.getElem?_eq_some_iff.1 hx
      obtain ⟨h2, rfl⟩ := List.getElem?_eq_some_iff.1 hy
      exact List.pairwise_iff_getElem.1 h.up _ _ h2 h1 (by omega)
theorem sort_asc {l : List Int} (h : l.Pairwise (· < ·)) : sortP l = l := (sortP_of (.refl _) (h.imp fun h => by omega)).symm
theorem mem_out {t : Int} {l : List I_Hold} {p : Int} : p ∈ outH t l ↔ ∃ h ∈ l, h.since < t ∧ h.page = p := by
  unfold outH
  simp only [List.mem_map, List.mem_filter, decide_eq_true_eq]
  exact ⟨fun ⟨h, ⟨h1, h2⟩, h3⟩ => ⟨h, h1, h2, h3⟩, fun ⟨h, h1, h2, h3⟩ => ⟨h, ⟨h1, h2⟩, h3⟩⟩
theorem mem_stay {t : Int} {l : List I_Hold} {x : I_Hold} : x ∈ stayH t l ↔ x ∈ l ∧ t ≤ x.since := by
  unfold stayH
  simp only [List.mem_filter, Bool.not_eq_true', decide_eq_false_iff_not, Int.not_lt]
theorem page_inj {l : List I_Hold} (h : (l.map I_Hold.page).Nodup) {x y : I_Hold} (hx : x ∈ l) (hy : y ∈ l) (e : x.page = y.page) : x = y := by
  induction l with
  | nil => cases hx
  | cons z l ih =>
    simp only [List.map_cons, List.nodup_cons] at h
    rcases List.mem_cons.1 hx with h1 | h1 <;> rcases List.mem_cons.1 hy with h2 | h2
    · rw [h1, h2]
    · exact (h.1 (List.mem_map.2 ⟨y, h2, by rw [← e, h1]⟩)).elim
    · exact (h.1 (List.mem_map.2 ⟨x, h1, by rw [e, h2]⟩)).elim
    · exact ih h.2 h1 h2
theorem rel_v {s : I_Space} (t : Int) (h : vS s) : vS (relP s t) := by
  have h' := h.to
  unfold relP; rw [if_pos h]
  have hm : ∀ x, x ∈ sortP (s.free ++ outH t s.held) ↔ x ∈ s.free ∨ x ∈ outH t s.held := fun x => by rw [(sortP_perm _).mem_iff, List.mem_append]
  refine vS'.to ⟨h'.lo, h'.hi, ?_, fun x hx => ?_, fun x hx => ?_, ?_, ?_⟩
  · show (sortP (s.free ++ outH t s.held)).Pairwise (· < ·)
    have hnd : (s.free ++ outH t s.held).Nodup := by
      rw [List.nodup_append]
      refine ⟨h.ndF, ?_, fun a ha b hb e => ?_⟩
      · exact h'.nd.sublist (List.Sublist.map _ List.filter_sublist)
      · subst e
        obtain ⟨y, hy, _, rfl⟩ := mem_out.1 hb
        exact (h'.memH y hy).2.2.1 ha
    have h1 := (sortP_perm (s.free ++ outH t s.held)).nodup_iff.2 hnd
    have h2 := sortP_pw (s.free ++ outH t s.held)
    rw [List.pairwise_iff_getElem] at h2 ⊢
    rw [List.Nodup, List.pairwise_iff_getElem] at h1
    intro i j hi hj hij
    have e1 := h1 i j hi hj hij
    have e2 := h2 i j hi hj hij
    omega
  · rcases (hm x).1 hx with h1 | h1
    · exact h'.mem x h1
    · obtain ⟨y, hy, _, rfl⟩ := mem_out.1 h1
      have := h'.memH y hy
      exact ⟨this.1, this.2.1⟩
  · obtain ⟨h1, h2⟩ := mem_stay.1 hx
    have h3 := h'.memH x h1
    refine ⟨h3.1, h3.2.1, fun e => ?_, h3.2.2.2⟩
    rcases (hm _).1 e with h4 | h4
    · exact h3.2.2.1 h4
    · obtain ⟨y, hy, h5, h6⟩ := mem_out.1 h4
      obtain rfl := page_inj h'.nd hy h1 h6
      omega
  · exact h'.nd.sublist (List.Sublist.map _ List.filter_sublist)
  · exact h'.up.sublist List.filter_sublist
theorem rel_usd {s : I_Space} (t : Int) (h : vS s) (p : Int) : usd (relP s t) p ↔ usd s p := by
  unfold relP; rw [if_pos h]; unfold usd
  dsimp only
  rw [(sortP_perm _).mem_iff, List.mem_append]
  refine and_congr_right fun _ => and_congr_right fun _ => ⟨fun ⟨h1, h2⟩ => ⟨fun e => h1 (.inl e), fun x hx e => ?_⟩, fun ⟨h1, h2⟩ => ⟨fun e => ?_, fun x hx e => h2 x (mem_stay.1 hx).1 e⟩⟩
  · rcases Int.lt_or_le x.since t with h3 | h3
    · exact h1 (.inr (mem_out.2 ⟨x, hx, h3, e⟩))
    · exact h2 x (mem_stay.2 ⟨hx, h3⟩) e
  · rcases e with e | e
    · exact h1 e
    · obtain ⟨x, hx, _, e⟩ := mem_out.1 e
      exact h2 x hx e
theorem pgs_congr {s s' : I_Space} (h : ∀ p, usd s p ↔ usd s' p) : ∀ n, pgs s n = pgs s' n
  | 0 => rfl
  | n + 1 => by
    unfold pgs; rw [pgs_congr h n]
    by_cases hc : usd s n
    · rw [if_pos hc, if_pos ((h _).1 hc)]
    · rw [if_neg hc, if_neg fun e => hc ((h _).2 e)]
theorem rel_pages {s : I_Space} (t : Int) (h : vS s) : pagesP (relP s t) = pagesP s := by
  have e : (relP s t).pages = s.pages := by unfold relP; rw [if_pos h]
  have hv := rel_v t h
  unfold pagesP
  rw [if_pos h, if_pos hv, e, pgs_congr (rel_usd t h)]
theorem out_mono (t : Int) : ∀ l : List I_Hold, (outH t l).length ≤ (outH (t + 1) l).length
  | [] => Nat.le_refl _
  | x :: l => by
    have ih := out_mono t l
    unfold outH at *
    simp only [List.length_map] at *
    by_cases h : x.since < t
    · have h2 : x.since < t + 1 := by omega
      simp [h, h2]; exact ih
    · by_cases h2 : x.since < t + 1
      · simp [h, h2]; omega
      · simp [h, h2]; exact ih
theorem rel_more {s : I_Space} (t : Int) (h : vS s) : (relP s t).free.length ≤ (relP s (t + 1)).free.length := by
  have := out_mono t s.held
  unfold relP; rw [if_pos h, if_pos h]
  simp only [sortP_len, List.length_append]; omega
theorem out_none {t : Int} {l : List I_Hold} (h : ∀ x ∈ l, t ≤ x.since) : outH t l = [] ∧ stayH t l = l := by
  refine ⟨?_, ?_⟩
  · apply List.eq_nil_iff_forall_not_mem.2
    intro p hp
    obtain ⟨x, hx, h1, _⟩ := mem_out.1 hp
    have := h x hx; omega
  · unfold stayH
    exact List.filter_eq_self.2 fun x hx => by have := h x hx; simp; omega
theorem rel_same {s : I_Space} {t : Int} (h : vS s) (ht : ∀ x ∈ s.held, t ≤ x.since) : relP s t = s := by
  obtain ⟨h1, h2⟩ := out_none ht
  unfold relP; rw [if_pos h, h1, h2, List.append_nil, sort_asc h.asc]
theorem rel_again {s : I_Space} (t : Int) (h : vS s) : relP (relP s t) t = relP s t := by
  refine rel_same (rel_v t h) fun x hx => ?_
  unfold relP at hx; rw [if_pos h] at hx
  exact (mem_stay.1 hx).2
section
variable {N : Nat} (hN : 100000000 ≤ N)
include hN
theorem relI {s : I_Space} (hf : s.free.length ≤ 4000000) (hh : s.held.length ≤ 4000000) (t : Int) : m_I_ReleasePages N s t = some (relP s t) := by
  refine ok.val ?_
  unfold m_I_ReleasePages
  refine ok.eq (validI hN (by omega) (by omega)) (ok.ite (fun hv => ?_) fun hv => ok.some (by unfold relP; rw [if_neg hv]; rfl))
  have hlF := hv.lenF
  have hlH := hv.lenH
  have hcl : m_slices_Clone_int N s.free = some s.free := by
    unfold m_slices_Clone_int
    rw [appM_eq ⟨by simp; omega, by simp; omega⟩]; rfl
  refine ok.eq hcl ?_
  refine ok.call (ok.each s.held.length (fun i st => st = ((i : Int), s.free ++ outH t (s.held.take i), stayH t (s.held.take i))) (fun e => e = (s.free ++ outH t s.held, stayH t s.held)) ?_ ?_ N 0 _ (Nat.zero_le _) (by simp [outH, stayH]) (by omega)) ?_
  · rintro i _ hi rfl
    have h1 := outH_len t (s.held.take i)
    have h2 := stayH_len t (s.held.take i)
    have h3 : (s.held.take i).length ≤ 16 := by simp; omega
    unfold m_I_ReleasePages_b1
    dsimp only
    refine ok.ift (by omega) (ok.eq (ixI_nat hi) (ok.ite (fun hc => ok.app ⟨by simp; omega, by simp; omega⟩ (ok.chk (by omega) (ok.some ?_))) fun hc => ok.app ⟨by simp; omega, by simp; omega⟩ (ok.chk (by omega) (ok.some ?_))))
    · show (_, _) = (_, _)
      rw [outH_take t hi, stayH_take t hi, if_pos hc, if_pos hc, List.append_assoc]; rfl
    · show (_, _) = (_, _)
      rw [outH_take t hi, stayH_take t hi, if_neg hc, if_neg hc]; rfl
  · rintro _ rfl
    unfold m_I_ReleasePages_b1
    refine ok.iff (by dsimp only; omega) (ok.some ?_)
    show _ = _
    rw [List.take_length]
  · rintro _ rfl
    unfold m_I_ReleasePages_k1
    have h1 := outH_len t s.held
    refine ok.eq (v := sortP (s.free ++ outH t s.held)) ?_ (ok.some ?_)
    · unfold m_slices_Sort_int; rw [if_pos (by simp; omega)]
    · unfold relP; rw [if_pos hv]
theorem equalHolds_eq {a b : List I_Hold} (ha : a.length ≤ 4000000) : m_L_equalHolds N a b = some (decide (a = b)) := by
  unfold m_L_equalHolds
  by_cases hl : a.length = b.length
  case neg =>
    have : a ≠ b := fun e => hl (by rw [e])
    rw [decide_eq_false (by omega), cond_false]; simp [this]
  rw [decide_eq_true (by omega), cond_true]
  refine eqlist_ok (by omega) hl ?_ ?_ rfl
  · intro i h1 h2
    show m_L_equalHolds_b1 N a b (i : Int) = _
    unfold m_L_equalHolds_b1
    rw [decide_eq_true (show (i : Int) < (a.length : Int) by omega), cond_true, ixI_nat h1, ixI_nat h2]
    simp only [Option.bind_some]
    split
    · rename_i e; rw [decide_eq_true e, cond_true, chk_eq (by omega)]; rfl
    · rename_i e; rw [decide_eq_false e]; rfl
  · show m_L_equalHolds_b1 N a b _ = _
    unfold m_L_equalHolds_b1
    rw [decide_eq_false (by omega)]; rfl
theorem equalSpace_self {a : I_Space} (h1 : a.free.length ≤ 4000000) (h2 : a.held.length ≤ 4000000) : m_L_equalSpace N a a = some true := by
  unfold m_L_equalSpace
  exact ok.val (ok.ift rfl (ok.eq (equalInts_eq hN h1) (ok.ift rfl (ok.eq (equalHolds_eq hN h2) (ok.some (decide_eq_true rfl))))))
omit hN in
theorem SmS.rel {s : I_Space} (h : SmS s) (t : Int) : (relP s t).free.length ≤ 60 ∧ (relP s t).held.length ≤ 60 := by
  have := rel_len s t
  have := h.1
  have := h.2
  omega
end
end V
end Go.Proofs.Ytambkpacecjheaa
