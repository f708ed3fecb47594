/- The law that taken pages are in use answers true. No condition. -/
import Derived.Test.YtambkpacecjheaaPlSpG
import Derived.Test.YtambkpacecjheaaSpLEa
namespace Go.Proofs.Ytambkpacecjheaa
namespace V
set_option linter.unusedVariables false
set_option linter.unusedSimpArgs false
section
variable {N : Nat} (hN : 100000000 ≤ N)
include hN
theorem takeLaw (l : List UInt8) (sl : Szd.szd l) : m_L_FnTakePage N l = some true := by
  refine ok.val ?_
  unfold m_L_FnTakePage
  refine ok.ite (fun _ => ok.some rfl) fun _ => ?_
  refine ok.call (drawTake_ok hN l) fun s hs => ?_
  have hF := hs.1
  have hH := hs.2
  have hr := hs.take
  refine ok.eq (takeI hN (by omega) (by omega)) (ok.eq (takeS hN (by omega) (by omega)) (ok.eq (equalSpace_self hN (by omega) (by omega)) (ok.bt rfl (ok.ift rfl (ok.bt (beq_self_eq_true _) ?_)))))
  rcases take_cases s with h | ⟨hv, t, p, h, h1, h2, h3, h4, h5, _⟩
  · rw [h] at hr ⊢
    exact ok.bf rfl (ok.eq (equalSpace_self hN (by dsimp only at hr ⊢; omega) (by dsimp only at hr ⊢; omega)) (ok.bt rfl (ok.some rfl)))
  · rw [h] at hr ⊢
    dsimp only at hr ⊢
    have hp := pagesP_len t
    have hp2 := pagesP_len s
    refine ok.bt rfl (ok.eq (validI hN (by omega) (by omega)) (ok.ift h1 (ok.eq (pagesI hN (by omega) (by omega)) (ok.eq (isInL hN (by omega) _) (ok.ift ((pagesP_mem h1).2 h2) (ok.eq (pagesI hN (by omega) (by omega)) (ok.eq (isInL hN (by omega) _) (ok.iff (fun e => h3 ((pagesP_mem hv).1 e)) ?_))))))))
    rw [h4]
    exact ok.eq (equalHolds_eq hN (by omega)) (ok.ift rfl (ok.some h5))
end
end V
end Go.Proofs.Ytambkpacecjheaa
