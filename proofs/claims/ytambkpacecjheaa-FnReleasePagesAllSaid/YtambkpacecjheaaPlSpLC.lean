/- The law that in the end all pages are free answers true. No condition. -/
import Derived.Test.YtambkpacecjheaaPlSpF
import Derived.Test.YtambkpacecjheaaSpLCa
namespace Go.Proofs.Ytambkpacecjheaa
namespace V
set_option linter.unusedVariables false
set_option linter.unusedSimpArgs false
section
variable {N : Nat} (hN : 100000000 ≤ N)
include hN
theorem releaseAllLaw (l : List UInt8) (sl : Szd.szd l) : m_L_FnReleasePagesAll N l = some true := by
  refine ok.val ?_
  unfold m_L_FnReleasePagesAll
  refine ok.ite (fun _ => ok.some rfl) fun _ => ?_
  refine ok.call (drawRel_ok hN l) ?_
  rintro ⟨s, t⟩ ⟨hs, ht1, ht2⟩
  dsimp only at hs ht1 ht2 ⊢
  have hF := hs.1
  have hH := hs.2
  have hr := hs.rel t
  refine ok.eq (relI hN (by omega) (by omega) t) (ok.eq (relS hN (by omega) t) (ok.eq (equalSpace_self hN (by omega) (by omega)) (ok.bt rfl (ok.eq (validI hN (by omega) (by omega)) ?_))))
  refine ok.ite (fun hv => ?_) fun hv => ok.eq (relS hN (by omega) t) (ok.eq (equalSpace_self hN (by omega) (by omega)) (ok.some rfl))
  have h1 : stayH 10000 s.held = [] := by
    apply List.eq_nil_iff_forall_not_mem.2
    intro x hx
    obtain ⟨h1, h2⟩ := mem_stay.1 hx
    have := (hv.memH h1).2.2.2.2; omega
  have h2 := outstay_len 10000 s.held
  rw [h1] at h2
  have e1 : (relP s 10000).held = [] := by unfold relP; rw [if_pos hv]; exact h1
  have e2 : (relP s 10000).free.length = s.free.length + s.held.length := by
    unfold relP; rw [if_pos hv]
    simp only [sortP_len, List.length_append]
    simp only [List.length_nil] at h2; omega
  refine ok.eq (relI hN (by omega) (by omega) _) (ok.ift (by rw [e1]; rfl) (ok.chk (by omega) (ok.ift (by omega) ?_)))
  rw [← rel_same hv (t := 0) (fun x hx => (hv.memH hx).2.2.2.1)]
  have hv2 : relP (relP s 0) 0 = relP s 0 := rel_again 0 hv
  have hr0 := hs.rel 0
  refine ok.eq (relI hN (by omega) (by omega) _) ?_
  rw [hv2]
  exact ok.eq (equalSpace_self hN (by omega) (by omega)) (ok.some rfl)
end
end V
end Go.Proofs.Ytambkpacecjheaa
