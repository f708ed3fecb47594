/- The law that pages in use can be held answers true. No condition. -/
import Derived.Test.YtambkpacecjheaaPlSpD
import Derived.Test.YtambkpacecjheaaSpLBa
namespace Go.Proofs.Ytambkpacecjheaa
namespace V
set_option linter.unusedVariables false
set_option linter.unusedSimpArgs false
theorem hold_iff {s : I_Space} (h : vS s) {p : Int} : (holdP s p 9999).2 = decide (p ∈ pagesP s) := by
  have : vS (nextS s p 9999) ↔ p ∈ pagesP s := by
    rw [next_iff, pagesP_mem h]
    exact ⟨fun h => h.2.1, fun hu => ⟨h, hu, by decide, by decide, fun y h0 hy => (h.hd _ y hy).2.2.2.2.2.1⟩⟩
  unfold holdP
  by_cases hc : vS (nextS s p 9999)
  · rw [if_pos hc, decide_eq_true (this.1 hc)]
  · rw [if_neg hc, decide_eq_false fun e => hc (this.2 e)]
section
variable {N : Nat} (hN : 100000000 ≤ N)
include hN
theorem pagesInUseLaw (l : List UInt8) (sl : Szd.szd l) : m_L_FnPagesInUse N l = some true := by
  refine ok.val ?_
  unfold m_L_FnPagesInUse
  refine ok.ite (fun _ => ok.some rfl) fun _ => ?_
  refine ok.call (drawPages_ok hN l) fun s hs => ?_
  have hF := hs.1
  have hH := hs.2
  have hpl := pagesP_len s
  refine ok.eq (pagesI hN (by omega) (by omega)) (ok.eq (pagesS hN (by omega)) (ok.eq (equalInts_eq hN (by omega)) (ok.ift rfl (ok.eq (validI hN (by omega) (by omega)) ?_))))
  refine ok.ite (fun hv => ?_) fun hv => ok.eq (pagesS hN (by omega)) (ok.eq (equalInts_eq hN (by omega)) (ok.some (decide_eq_true rfl)))
  have hlo := hv.lo
  have hhi := hv.hi
  refine ok.call (all_ok (n := s.pages.toNat + 2) (-1) (fun _ => True) (by omega) ?_ ?_) ?_
  · intro i hi _
    show ok (m_L_FnPagesInUse_b1 N s (pagesP s) ((i : Int) + -1)) _
    unfold m_L_FnPagesInUse_b1
    refine ok.ift (by omega) (ok.eq (holdI hN (by omega) (by omega) _ _) (ok.eq (isInL hN (by omega) _) (ok.bt ?_ (ok.chk (by omega) (ok.some (.inl ⟨rfl, trivial⟩))))))
    rw [hold_iff hv]; exact beq_self_eq_true _
  · show m_L_FnPagesInUse_b1 N s (pagesP s) _ = _
    unfold m_L_FnPagesInUse_b1
    rw [decide_eq_false (by omega)]; rfl
  · rintro _ (⟨rfl, _⟩ | ⟨rfl, h⟩)
    · exact ok.some rfl
    · exact (h fun _ _ => trivial).elim
end
end V
end Go.Proofs.Ytambkpacecjheaa
