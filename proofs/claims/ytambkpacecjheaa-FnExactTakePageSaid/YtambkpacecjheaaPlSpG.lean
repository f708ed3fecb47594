/- Taken pages, as plain data. No condition. -/
import Derived.Test.YtambkpacecjheaaPlSpF
import Derived.Test.YtambkpacecjheaaSpGa
namespace Go.Proofs.Ytambkpacecjheaa
namespace V
set_option linter.unusedVariables false
set_option linter.unusedSimpArgs false
set_option maxHeartbeats 1000000
theorem take_cases (s : I_Space) : takeP s = (zS, -1, false) ∨ (vS s ∧ ∃ t p, takeP s = (t, p, true) ∧ vS t ∧ usd t p ∧ ¬ usd s p ∧ t.held = s.held ∧ ((decide (t.pages = s.pages)) == (decide ((0 : Int) < (s.free.length : Int)))) = true ∧ (p ∈ s.free ∨ p = s.pages)) := by
  obtain ⟨pages, free, held⟩ := s
  unfold takeP
  by_cases hv : vS ⟨pages, free, held⟩
  case neg => rw [if_neg hv]; exact .inl rfl
  rw [if_pos hv]
  have h' := hv.to
  have hlo := h'.lo
  have hhi := h'.hi
  have hmem := h'.mem
  have hmH := h'.memH
  have hnd := h'.nd
  have hup := h'.up
  have hasc := h'.asc
  dsimp only at hlo hhi hmem hmH hnd hup hasc
  cases free with
  | nil =>
    dsimp only
    by_cases h16 : pages = 16
    · rw [if_pos h16]; exact .inl rfl
    · rw [if_neg h16]
      refine .inr ⟨hv, _, _, rfl, ?_, ?_, ?_, rfl, ?_, .inr rfl⟩
      · refine vS'.to ⟨by dsimp only; omega, by dsimp only; omega, .nil, fun x hx => (by cases hx), fun x hx => ?_, hnd, hup⟩
        have := hmH x hx
        exact ⟨this.1, by dsimp only; omega, this.2.2.1, this.2.2.2⟩
      · exact ⟨hlo, by dsimp only; omega, fun h => (by cases h), fun x hx => by have := hmH x hx; omega⟩
      · exact fun h => by have := h.2.1; dsimp only at this; omega
      · have : ¬ pages + 1 = pages := by omega
        simp [this]
  | cons x l =>
    dsimp only
    have hx := hmem x (.head _)
    rw [List.pairwise_cons] at hasc
    refine .inr ⟨hv, _, _, rfl, ?_, ?_, ?_, rfl, ?_, .inl (.head _)⟩
    · refine vS'.to ⟨hlo, hhi, hasc.2, fun y hy => hmem y (.tail _ hy), fun y hy => ?_, hnd, hup⟩
      have := hmH y hy
      exact ⟨this.1, this.2.1, fun e => this.2.2.1 (.tail _ e), this.2.2.2⟩
    · refine ⟨hx.1, hx.2, fun e => ?_, fun y hy e => ?_⟩
      · have := hasc.1 x e; omega
      · exact (hmH y hy).2.2.1 (e ▸ .head _)
    · exact fun h => h.2.2.1 (.head _)
    · have : (0 : Int) < (l.length : Int) + 1 := by omega
      simp [this]
section
variable {N : Nat} (hN : 100000000 ≤ N)
include hN
theorem takeI {s : I_Space} (hf : s.free.length ≤ 4000000) (hh : s.held.length ≤ 4000000) : m_I_TakePage N s = some (takeP s) := by
  refine ok.val ?_
  unfold m_I_TakePage
  refine ok.eq (validI hN (by omega) (by omega)) (ok.ite (fun hv => ?_) fun hv => ok.some (by unfold takeP; rw [if_neg hv]; rfl))
  have hlo := hv.lo
  have hhi := hv.hi
  refine ok.eq (clone_eq (by omega) (by omega)) ?_
  unfold takeP; rw [if_pos hv]
  obtain ⟨pages, free, held⟩ := s
  cases free with
  | nil =>
    dsimp only at *
    refine ok.iff (by simp) (ok.ite (fun h => ok.some (by rw [if_pos h]; rfl)) fun h => ok.chk (by omega) (ok.chk (by omega) (ok.some ?_)))
    rw [if_neg h, show pages + 1 - 1 = pages by omega]
  | cons x l =>
    dsimp only at *
    refine ok.ift (by simp) (ok.eq (ixI_eq (n := 0) rfl (by simp)) (ok.eq (v := l) ?_ (ok.some ?_)))
    · unfold m_slices_Delete_int
      rw [if_pos (by simp; omega)]; rfl
    · simp
omit hN in
theorem SmS.take {s : I_Space} (h : SmS s) : (takeP s).1.free.length ≤ 60 ∧ (takeP s).1.held.length ≤ 60 := by
  have := take_len s
  have := h.1
  have := h.2
  omega
end
end V
end Go.Proofs.Ytambkpacecjheaa
