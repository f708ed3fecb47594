/- The exact law of released pages answers true, as a function of plain data. Condition: slices are no longer than Go allows. -/
import Derived.Test.YtambkpacecjheaaPlSpX
import Derived.Test.YtambkpacecjheaaPlSpF
import Derived.Test.YtambkpacecjheaaSpXR
import Derived.Test.YtambkpacecjheaaSpYDa
namespace Go.Proofs.Ytambkpacecjheaa
namespace V
set_option linter.unusedVariables false
set_option linter.unusedSimpArgs false
set_option maxRecDepth 100000
section
variable {N : Nat} (hN : 100000000 ≤ N)
include hN
theorem exactReleasePages (a : L_Space) (sa : Szd.szd a) (t : Int) (st : Szd.szd t) : m_L_FnExactReleasePages N a t = some true := by
  refine ok.val ?_
  unfold m_L_FnExactReleasePages
  refine ok.call (szSpace_ok sa.2.1.1 sa.2.2.1) fun r hr => ?_
  refine ok.ite (fun _ => ok.some rfl) fun hc => ?_
  obtain ⟨h1, h2⟩ := hr.resolve_left hc
  have f1 : (toSp a).free.length = a.free.length := rfl
  have f2 : (toSp a).held.length = a.held.length := List.length_map _
  have f3 := rel_len (toSp a) t
  repeat' (first | (with_reducible refine ok.some ?_) | (with_reducible refine ok.eq (toSpace_eq hN (by omega) (by omega)) ?_) | (with_reducible refine ok.eq (relS hN (by omega) _) ?_) | (with_reducible refine ok.eq (relI hN (by omega) (by omega) _) ?_) | (with_reducible refine ok.eq (eqSpace_self hN (by omega) (by omega)) ?_) | (with_reducible refine ok.bt rfl ?_) | (with_reducible refine ok.bt (beq_self_eq_true _) ?_) | (with_reducible refine ok.eq (markSpace_eq hN (by omega) (by omega)) ?_) | (with_reducible refine ok.eq (heldSpace_eq hN (by omega) (by omega)) ?_) | (with_reducible refine ok.iff (by unfold cSp; omega) ?_) | (with_reducible refine ok.ift rfl ?_) | (with_reducible refine ok.ite (fun hc => ?_) (fun hc => ?_)) | (with_reducible refine ok.cond (fun hc => ?_) (fun hc => ?_)) | (with_reducible refine ok.chk (by omega) ?_) | (with_reducible refine ok.bs ?_) | (with_reducible refine ok.remM (by omega) (fun _ hq => ?_)) | (with_reducible refine ok.quoM (by omega) (fun _ hq => ?_)) | (with_reducible refine ok.ix (by omega) (by omega) (fun q hq he => ?_)))
  all_goals rfl
end
end V
end Go.Proofs.Ytambkpacecjheaa
