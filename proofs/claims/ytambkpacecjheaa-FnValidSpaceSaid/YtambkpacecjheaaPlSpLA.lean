/- The law that every page has one place answers true. No condition. -/
import Derived.Test.YtambkpacecjheaaPlSpD
import Derived.Test.YtambkpacecjheaaSpLAa
namespace Go.Proofs.Ytambkpacecjheaa
namespace V
set_option linter.unusedVariables false
set_option linter.unusedSimpArgs false
theorem pgs_nd (s : I_Space) : ∀ n, (pgs s n).Nodup
  | 0 => List.nodup_nil
  | n + 1 => by
    unfold pgs; split
    · rw [List.nodup_append]
      refine ⟨pgs_nd s n, by simp, fun a ha b hb e => ?_⟩
      rw [List.mem_singleton] at hb
      have := ((pgs_mem s n).1 ha).2
      omega
    · exact pgs_nd s n
theorem places {s : I_Space} (h : vS s) {p : Nat} (hp : (p : Int) < s.pages) : s.free.count (p : Int) + (pagesP s).count (p : Int) + (s.held.map I_Hold.page).count (p : Int) = 1 := by
  have h2 : (pagesP s).Nodup := by unfold pagesP; rw [if_pos h]; exact pgs_nd _ _
  rw [h.ndF.count, h2.count, h.ndH.count]
  by_cases h1 : (p : Int) ∈ s.free
  · rw [if_pos h1, if_neg fun e => ((pagesP_mem h).1 e).2.2.1 h1, if_neg]
    intro e
    obtain ⟨y, hy, e⟩ := List.mem_map.1 e
    exact (h.memH hy).2.2.1 (e ▸ h1)
  · rw [if_neg h1]
    by_cases h3 : (p : Int) ∈ s.held.map I_Hold.page
    · rw [if_pos h3, if_neg]
      intro e
      obtain ⟨y, hy, e2⟩ := List.mem_map.1 h3
      exact ((pagesP_mem h).1 e).2.2.2 y hy e2
    · rw [if_neg h3, if_pos]
      exact (pagesP_mem h).2 ⟨by omega, hp, h1, fun y hy e => h3 (List.mem_map.2 ⟨y, hy, e⟩)⟩
theorem all_places {s : I_Space} (h : vS s) : (s.free.length : Int) + (s.held.length : Int) + ((pagesP s).length : Int) = s.pages := by
  have hlo := h.lo
  have h1 := tot_count s.pages.toNat s.free fun x hx => by have := h.mem hx; omega
  have h2 := tot_count s.pages.toNat (pagesP s) fun x hx => by have := (pagesP_mem h).1 hx; have := this.1; have := this; have h3 := (pagesP_mem h).1 hx; have := h3.2.1; omega
  have h3 := tot_count s.pages.toNat (s.held.map I_Hold.page) fun x hx => by
    obtain ⟨y, hy, rfl⟩ := List.mem_map.1 hx
    have := h.memH hy; omega
  have h4 := tot_congr s.pages.toNat (f := fun p => (s.free.count (p : Int) + (pagesP s).count (p : Int)) + (s.held.map I_Hold.page).count (p : Int)) (g := fun _ => 1) fun p hp => places h (by omega)
  rw [tot_one, tot_add, tot_add, h1, h2, h3, List.length_map] at h4
  omega
theorem count_take {l : List I_Hold} {j : Nat} (h : j < l.length) (p : Int) : (((l.take (j + 1)).map I_Hold.page).count p : Int) = ((l.take j).map I_Hold.page).count p + if l[j].page = p then 1 else 0 := by
  rw [take_succ1 h, List.map_append, List.count_append]
  by_cases hc : l[j].page = p <;> simp [hc]
section
variable {N : Nat} (hN : 100000000 ≤ N)
include hN
theorem count_loop {body : Int × Int → Option ((Int × Int) ⊕ Int)} {l : List I_Hold} {p c : Int} (hl : l.length ≤ 100) (hc : 0 ≤ c ∧ c ≤ 100)
    (h : ∀ (a : Int) (j : Nat), body (a, (j : Int)) = cond (decide ((j : Int) < (l.length : Int))) ((ixI l (j : Int)).bind fun x => cond (decide (x.page = p)) ((chk (a + (1 : Int))).bind fun n => (chk ((j : Int) + (1 : Int))).bind fun m => some (.inl (n, m))) ((chk ((j : Int) + (1 : Int))).bind fun m => some (.inl (a, m)))) (some (.inr a))) :
    loopM body N (c, 0) = some (c + (l.map I_Hold.page).count p) := by
  refine ok.val (ok.each l.length (fun j st => st = (c + (((l.take j).map I_Hold.page).count p : Int), (j : Int))) _ ?_ ?_ N 0 _ (Nat.zero_le _) (by simp) (by omega))
  · rintro j _ hj rfl
    have hle : ((l.take j).map I_Hold.page).count p ≤ 100 := Nat.le_trans List.count_le_length (by simp; omega)
    rw [h]
    refine ok.ift (by omega) (ok.eq (ixI_nat hj) (ok.ite (fun h1 => ok.chk (by omega) (ok.chk (by omega) (ok.some ?_))) fun h1 => ok.chk (by omega) (ok.some ?_)))
    · show (_, _) = (_, _)
      rw [count_take hj, if_pos h1, Int.add_assoc]; rfl
    · show (_, _) = (_, _)
      rw [count_take hj, if_neg h1, Int.add_zero]; rfl
  · rintro _ rfl
    rw [h]
    refine ok.iff (by omega) (ok.some ?_)
    show _ = _
    rw [List.take_length]
theorem validSpaceLaw (l : List UInt8) (sl : Szd.szd l) : m_L_FnValidSpace N l = some true := by
  refine ok.val ?_
  unfold m_L_FnValidSpace
  refine ok.ite (fun _ => ok.some rfl) fun _ => ?_
  refine ok.call (drawSpace_ok hN l) fun s hs => ?_
  have hF := hs.1
  have hH := hs.2
  refine ok.eq (validI hN (by omega) (by omega)) (ok.eq (validSS hN (by omega)) (ok.bt (beq_self_eq_true _) ?_))
  refine ok.ite (fun hv => ?_) fun hv => ok.eq (validSS hN (by omega)) (ok.some (beq_self_eq_true _))
  have hlo := hv.lo
  have hhi := hv.hi
  have hpl := pagesP_len s
  refine ok.eq (pagesI hN (by omega) (by omega)) ?_
  refine ok.call (all_ok (n := s.pages.toNat) 0 (fun _ => True) (by omega) ?_ ?_) ?_
  · intro i hi _
    show ok (m_L_FnValidSpace_b5 N s (pagesP s) ((i : Int) + 0)) _
    rw [Int.add_zero]
    have h1 := places hv (p := i) (by omega)
    have h2 : (pagesP s).Nodup := by unfold pagesP; rw [if_pos hv]; exact pgs_nd _ _
    rw [hv.ndF.count, h2.count] at h1
    have fin : ∀ c : Int, c = 1 → ok (cond (decide (c = (1 : Int))) ((chk ((i : Int) + (1 : Int))).bind fun n => some (.inl n)) (some (.inr (.inr false)))) (fun y : Int ⊕ (Unit ⊕ Bool) => (y = .inl ((i : Int) + 1) ∧ True) ∨ (y = .inr (.inr false) ∧ ¬ True)) := fun c hc => ok.ift hc (ok.chk (by omega) (ok.some (.inl ⟨rfl, trivial⟩)))
    unfold m_L_FnValidSpace_b5
    refine ok.ift (by omega) (ok.eq (isInL hN (by omega) _) (ok.ite (fun hf => ok.chk (by omega) (ok.eq (isInL hN (by omega) _) (ok.ite (fun hp => ok.chk (by omega) (ok.eq (count_loop hN (by omega) (by omega) (fun _ _ => rfl)) ?_)) fun hp => ok.eq (count_loop hN (by omega) (by omega) (fun _ _ => rfl)) ?_))) fun hf => ok.eq (isInL hN (by omega) _) (ok.ite (fun hp => ok.chk (by omega) (ok.eq (count_loop hN (by omega) (by omega) (fun _ _ => rfl)) ?_)) fun hp => ok.eq (count_loop hN (by omega) (by omega) (fun _ _ => rfl)) ?_)))
    · rw [if_pos hf, if_pos hp] at h1; exact fin _ (by omega)
    · rw [if_pos hf, if_neg hp] at h1; exact fin _ (by omega)
    · rw [if_neg hf, if_pos hp] at h1; exact fin _ (by omega)
    · rw [if_neg hf, if_neg hp] at h1; exact fin _ (by omega)
  · show m_L_FnValidSpace_b5 N s (pagesP s) _ = _
    unfold m_L_FnValidSpace_b5
    rw [decide_eq_false (by omega)]; rfl
  · rintro _ (⟨rfl, _⟩ | ⟨rfl, h⟩)
    · have h2 := all_places hv
      unfold m_L_FnValidSpace_k5
      refine ok.chk (by omega) (ok.chk (by omega) (ok.some (decide_eq_true h2)))
    · exact (h fun _ _ => trivial).elim
end
end V
end Go.Proofs.Ytambkpacecjheaa
