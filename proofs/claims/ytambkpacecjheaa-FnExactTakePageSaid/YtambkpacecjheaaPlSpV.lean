/- The exact law of taken pages answers true, as a function of plain data. Condition: slices are no longer than Go allows. -/
import Derived.Test.YtambkpacecjheaaPlSpX
import Derived.Test.YtambkpacecjheaaPlSpG
import Derived.Test.YtambkpacecjheaaSpXR
import Derived.Test.YtambkpacecjheaaSpYEa
namespace Go.Proofs.Ytambkpacecjheaa
namespace V
set_option linter.unusedVariables false
set_option linter.unusedSimpArgs false
set_option maxRecDepth 100000
section
variable {N : Nat} (hN : 100000000 ≤ N)
include hN
theorem exactTakePage (a : L_Space) (sa : Szd.szd a) : m_L_FnExactTakePage N a = some true := by
  refine ok.val ?_
  unfold m_L_FnExactTakePage
  refine ok.call (szSpace_ok sa.2.1.1 sa.2.2.1) fun r hr => ?_
  refine ok.ite (fun _ => ok.some rfl) fun hc => ?_
  obtain ⟨h1, h2⟩ := hr.resolve_left hc
  have f1 : (toSp a).free.length = a.free.length := rfl
  have f2 : (toSp a).held.length = a.held.length := List.length_map _
  have f3 := take_len (toSp a)
  repeat' (first | (with_reducible refine ok.some ?_) | (with_reducible refine ok.eq (toSpace_eq hN (by omega) (by omega)) ?_) | (with_reducible refine ok.eq (takeS hN (by omega) (by omega)) ?_) | (with_reducible refine ok.eq (takeI hN (by omega) (by omega)) ?_) | (with_reducible refine ok.eq (eqSpace_self hN (by omega) (by omega)) ?_) | (with_reducible refine ok.bt rfl ?_) | (with_reducible refine ok.bt (beq_self_eq_true _) ?_) | (with_reducible refine ok.eq (markSpace_eq hN (by omega) (by omega)) ?_) | (with_reducible refine ok.eq (heldSpace_eq hN (by omega) (by omega)) ?_) | (with_reducible refine ok.iff (by unfold cSp; omega) ?_) | (with_reducible refine ok.ift rfl ?_) | (with_reducible refine ok.ite (fun hc => ?_) (fun hc => ?_)) | (with_reducible refine ok.cond (fun hc => ?_) (fun hc => ?_)) | (with_reducible refine ok.chk (by omega) ?_) | (with_reducible refine ok.bs ?_) | (with_reducible refine ok.remM (by omega) (fun _ hq => ?_)) | (with_reducible refine ok.quoM (by omega) (fun _ hq => ?_)) | (with_reducible refine ok.ix (by omega) (by omega) (fun q hq he => ?_)))
  all_goals rfl
end
end V
end Go.Proofs.Ytambkpacecjheaa
