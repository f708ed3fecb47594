/- The exact laws of the space answer true, as functions of plain data. Condition: slices are no longer than Go allows. -/
import Derived.Test.YtambkpacecjheaaPlSpX
import Derived.Test.YtambkpacecjheaaSpXR
import Derived.Test.YtambkpacecjheaaSpYAa
import Derived.Test.YtambkpacecjheaaSpYBa
import Derived.Test.YtambkpacecjheaaSpYCa
namespace Go.Proofs.Ytambkpacecjheaa
namespace V
set_option linter.unusedVariables false
set_option linter.unusedSimpArgs false
set_option maxRecDepth 100000
section
variable {N : Nat} (hN : 100000000 ≤ N)
include hN
theorem exactValidSpace (a : L_Space) (sa : Szd.szd a) : m_L_FnExactValidSpace N a = some true := by
  refine ok.val ?_
  unfold m_L_FnExactValidSpace
  refine ok.call (szSpace_ok sa.2.1.1 sa.2.2.1) fun r hr => ?_
  refine ok.ite (fun _ => ok.some rfl) fun hc => ?_
  obtain ⟨h1, h2⟩ := hr.resolve_left hc
  have f1 : (toSp a).free.length = a.free.length := rfl
  have f2 : (toSp a).held.length = a.held.length := List.length_map _
  refine ok.eq (toSpace_eq hN (by omega) (by omega)) (ok.eq (validSS hN (by omega)) (ok.eq (toSpace_eq hN (by omega) (by omega)) (ok.eq (validI hN (by omega) (by omega)) (ok.bt (beq_self_eq_true _) ?_))))
  exact ok.eq (toSpace_eq hN (by omega) (by omega)) (ok.eq (eqSpace_self hN (by omega) (by omega)) (ok.bt rfl (ok.some rfl)))
theorem exactPagesInUse (a : L_Space) (sa : Szd.szd a) : m_L_FnExactPagesInUse N a = some true := by
  refine ok.val ?_
  unfold m_L_FnExactPagesInUse
  refine ok.call (szSpace_ok sa.2.1.1 sa.2.2.1) fun r hr => ?_
  refine ok.ite (fun _ => ok.some rfl) fun hc => ?_
  obtain ⟨h1, h2⟩ := hr.resolve_left hc
  have f1 : (toSp a).free.length = a.free.length := rfl
  have f2 : (toSp a).held.length = a.held.length := List.length_map _
  have f3 := pagesP_len (toSp a)
  repeat' (first | (with_reducible refine ok.some ?_) | (with_reducible refine ok.eq (toSpace_eq hN (by omega) (by omega)) ?_) | (with_reducible refine ok.eq (pagesS hN (by omega)) ?_) | (with_reducible refine ok.eq (pagesI hN (by omega) (by omega)) ?_) | (with_reducible refine ok.eq (eqIntS_self hN (by omega)) ?_) | (with_reducible refine ok.eq (eqSpace_self hN (by omega) (by omega)) ?_) | (with_reducible refine ok.bt rfl ?_) | (with_reducible refine ok.eq (markSpace_eq hN (by omega) (by omega)) ?_) | (with_reducible refine ok.eq (markIntS_eq hN (by omega) (by omega)) ?_) | (with_reducible refine ok.eq (heldIntS_eq hN (by omega) (by omega)) ?_) | (with_reducible refine ok.iff (by unfold cSp; omega) ?_) | (with_reducible refine ok.iff (by omega) ?_) | (with_reducible refine ok.ift rfl ?_) | (with_reducible refine ok.ite (fun hc => ?_) (fun hc => ?_)) | (with_reducible refine ok.cond (fun hc => ?_) (fun hc => ?_)) | (with_reducible refine ok.chk (by omega) ?_) | (with_reducible refine ok.bs ?_) | (with_reducible refine ok.remM (by omega) (fun _ hq => ?_)) | (with_reducible refine ok.quoM (by omega) (fun _ hq => ?_)) | (with_reducible refine ok.ix (by omega) (by omega) (fun q hq he => ?_)))
  all_goals rfl
theorem exactHoldPage (a : L_Space) (sa : Szd.szd a) (p : Int) (sp : Szd.szd p) (t : Int) (st : Szd.szd t) : m_L_FnExactHoldPage N a p t = some true := by
  refine ok.val ?_
  unfold m_L_FnExactHoldPage
  refine ok.call (szSpace_ok sa.2.1.1 sa.2.2.1) fun r hr => ?_
  refine ok.ite (fun _ => ok.some rfl) fun hc => ?_
  obtain ⟨h1, h2⟩ := hr.resolve_left hc
  have f1 : (toSp a).free.length = a.free.length := rfl
  have f2 : (toSp a).held.length = a.held.length := List.length_map _
  have f3 : (holdP (toSp a) p t).1.free.length ≤ 2000000 ∧ (holdP (toSp a) p t).1.held.length ≤ 2000000 := by
    rcases hold_cases (toSp a) p t with h | ⟨_, h⟩ <;> rw [h]
    · exact ⟨by decide, by decide⟩
    · simp only [nextS, List.length_append, List.length_cons, List.length_nil]; omega
  repeat' (first | (with_reducible refine ok.some ?_) | (with_reducible refine ok.eq (toSpace_eq hN (by omega) (by omega)) ?_) | (with_reducible refine ok.eq (holdS hN (by omega) (by omega) _ _) ?_) | (with_reducible refine ok.eq (holdI hN (by omega) (by omega) _ _) ?_) | (with_reducible refine ok.eq (eqSpace_self hN (by omega) (by omega)) ?_) | (with_reducible refine ok.bt rfl ?_) | (with_reducible refine ok.bt (beq_self_eq_true _) ?_) | (with_reducible refine ok.eq (markSpace_eq hN (by omega) (by omega)) ?_) | (with_reducible refine ok.eq (heldSpace_eq hN (by omega) (by omega)) ?_) | (with_reducible refine ok.iff (by unfold cSp; omega) ?_) | (with_reducible refine ok.ift rfl ?_) | (with_reducible refine ok.ite (fun hc => ?_) (fun hc => ?_)) | (with_reducible refine ok.cond (fun hc => ?_) (fun hc => ?_)) | (with_reducible refine ok.chk (by omega) ?_) | (with_reducible refine ok.bs ?_) | (with_reducible refine ok.remM (by omega) (fun _ hq => ?_)) | (with_reducible refine ok.quoM (by omega) (fun _ hq => ?_)) | (with_reducible refine ok.ix (by omega) (by omega) (fun q hq he => ?_)))
  all_goals rfl
end
end V
end Go.Proofs.Ytambkpacecjheaa
