/- The law that released pages are free answers true. No condition. -/
import Derived.Test.YtambkpacecjheaaPlSpF
import Derived.Test.YtambkpacecjheaaSpLDa
namespace Go.Proofs.Ytambkpacecjheaa
namespace V
set_option linter.unusedVariables false
set_option linter.unusedSimpArgs false
section
variable {N : Nat} (hN : 100000000 ≤ N)
include hN
theorem releaseLaw (l : List UInt8) (sl : Szd.szd l) : m_L_FnReleasePages N l = some true := by
  refine ok.val ?_
  unfold m_L_FnReleasePages
  refine ok.ite (fun _ => ok.some rfl) fun _ => ?_
  refine ok.call (drawRel_ok hN l) ?_
  rintro ⟨s, t⟩ ⟨hs, ht1, ht2⟩
  dsimp only at hs ht1 ht2 ⊢
  have hF := hs.1
  have hH := hs.2
  have hr := hs.rel t
  refine ok.eq (relI hN (by omega) (by omega) t) (ok.eq (relS hN (by omega) t) (ok.eq (equalSpace_self hN (by omega) (by omega)) (ok.bt rfl (ok.eq (validI hN (by omega) (by omega)) ?_))))
  refine ok.ite (fun hv => ?_) fun hv => ok.eq (relS hN (by omega) t) (ok.eq (equalSpace_self hN (by omega) (by omega)) (ok.some rfl))
  have hv2 := rel_v t hv
  have hp := pagesP_len s
  have hm := rel_more t hv
  refine ok.iff (by omega) (ok.chk (by omega) (ok.eq (relI hN (by omega) (by omega) _) (ok.eq (validI hN (by omega) (by omega)) (ok.ift hv2 ?_))))
  refine ok.eq (pagesI hN (by omega) (by omega)) (ok.eq (pagesI hN (by omega) (by omega)) ?_)
  rw [rel_pages t hv]
  refine ok.eq (equalInts_eq hN (by omega)) (ok.ift rfl (ok.ift (by omega) (ok.eq (relI hN (by omega) (by omega) _) ?_)))
  rw [rel_again t hv]
  exact ok.eq (equalSpace_self hN (by omega) (by omega)) (ok.some rfl)
end
end V
end Go.Proofs.Ytambkpacecjheaa
