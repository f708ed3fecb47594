/- The exact law of edits that run answers true, as a function of plain data. Condition: slices are no longer than Go allows. -/
import Derived.Test.YtaiifcnjmbpbjaaPlEdX
import Derived.Test.YtaiifcnjmbpbjaaEdR
import Derived.Test.YtaiifcnjmbpbjaaEdYa
namespace Go.Proofs.Ytaiifcnjmbpbjaa
namespace V
set_option linter.unusedVariables false
set_option linter.unusedSimpArgs false
set_option maxRecDepth 100000
section
variable {N : Nat} (hN : 100000000 ≤ N)
include hN
theorem exactRunEdits (s : List Int) (ss : Szd.szd s) (a : List L_Edit) (sa : Szd.szd a) : m_L_FnExactRunEdits N s a = some true := by
  refine ok.val ?_
  unfold m_L_FnExactRunEdits
  refine ok.ite (fun _ => ok.some rfl) fun hs => ?_
  refine ok.call (szEditS_ok N sa.1) fun r hr => ?_
  refine ok.ite (fun _ => ok.some rfl) fun hc => ?_
  have hr := hr.resolve_left hc
  have f1 : (a.map toEdit).length = a.length := List.length_map _
  have f2 := runP_len s (a.map toEdit)
  repeat' (first | (with_reducible refine ok.some ?_) | (with_reducible refine ok.eq (toIntS_eq hN (by omega)) ?_) | (with_reducible refine ok.eq (toEditS_eq hN (by omega)) ?_) | (with_reducible refine ok.eq (runS hN (by omega)) ?_) | (with_reducible refine ok.eq (runI hN (by omega)) ?_) | (with_reducible refine ok.eq (eqIntS_self hN (by omega)) ?_) | (with_reducible refine ok.eq (eqEditS_self hN (by omega)) ?_) | (with_reducible refine ok.bt rfl ?_) | (with_reducible refine ok.bt (beq_self_eq_true _) ?_) | (with_reducible refine ok.eq (markIntS_eq hN (by omega) (by omega)) ?_) | (with_reducible refine ok.eq (markEditS_eq hN (by omega) (by omega)) ?_) | (with_reducible refine ok.eq (heldIntS_eq hN (by omega) (by omega)) ?_) | (with_reducible refine ok.iff (by omega) ?_) | (with_reducible refine ok.ift rfl ?_) | (with_reducible refine ok.ite (fun hc => ?_) (fun hc => ?_)) | (with_reducible refine ok.cond (fun hc => ?_) (fun hc => ?_)) | (with_reducible refine ok.chk (by omega) ?_) | (with_reducible refine ok.bs ?_) | (with_reducible refine ok.remM (by omega) (fun _ hq => ?_)) | (with_reducible refine ok.quoM (by omega) (fun _ hq => ?_)) | (with_reducible refine ok.ix (by omega) (by omega) (fun q hq he => ?_)))
  all_goals rfl
end
end V
end Go.Proofs.Ytaiifcnjmbpbjaa
