/- The exact laws of the buffers answer true, as functions of plain data. Condition: slices are no longer than Go allows. -/
import Derived.Test.YtifcacahgiihoaaPlBufD
import Derived.Test.YtifcacahgiihoaaGBufR
import Derived.Test.YtifcacahgiihoaaPlBufX
import Derived.Test.YtifcacahgiihoaaGBufY
namespace Go.Proofs.Ytifcacahgiihoaa
namespace V
set_option linter.unusedVariables false
set_option linter.unusedSimpArgs false
set_option maxRecDepth 100000
section
variable {N : Nat} (hN : 100000000 ≤ N)
include hN
omit hN in
theorem toBuf_len {a : L_Buffer} : (toBuf a).frames.length = a.frames.length := by simp [toBuf]
theorem exactForceLog (a : L_Buffer) (sa : Szd.szd a) (l : Int) (sl : Szd.szd l) : m_L_FnExactForceLog N a l = some true := by
  refine ok.val ?_
  unfold m_L_FnExactForceLog
  refine ok.call (szBuffer_ok sa.1.1) fun r hr => ?_
  refine ok.ite (fun _ => ok.some rfl) fun hc => ?_
  have hl : a.frames.length ≤ 1048576 := by omega
  have h1 := toBuf_len (a := a)
  have h2 := forceB_len (b := toBuf a) (l := l)
  repeat' (first | (with_reducible refine ok.some ?_) | (with_reducible refine ok.eq (toBuffer_eq hN (by omega)) ?_) | (with_reducible refine ok.eq (forceS hN (by omega)) ?_) | (with_reducible refine ok.eq (forceI hN (by omega)) ?_) | (with_reducible refine ok.eq (eqBuffer_self hN (by omega)) ?_) | (with_reducible refine ok.bt rfl ?_) | (with_reducible refine ok.eq (markBuffer_eq hN (by omega)) ?_) | (with_reducible refine ok.eq (heldBuffer_eq hN (by omega)) ?_) | (with_reducible refine ok.iff (by omega) ?_) | (with_reducible refine ok.ift rfl ?_) | (with_reducible refine ok.ite (fun hc => ?_) (fun hc => ?_)) | (with_reducible refine ok.cond (fun hc => ?_) (fun hc => ?_)) | (with_reducible refine ok.chk (by omega) ?_) | (with_reducible refine ok.bs ?_) | (with_reducible refine ok.remM (by omega) (fun _ hq => ?_)) | (with_reducible refine ok.quoM (by omega) (fun _ hq => ?_)) | (with_reducible refine ok.ix (by omega) (by omega) (fun q hq he => ?_)))
  all_goals rfl
theorem exactWritePage (a : L_Buffer) (sa : Szd.szd a) (p : Int) (sp : Szd.szd p) : m_L_FnExactWritePage N a p = some true := by
  refine ok.val ?_
  unfold m_L_FnExactWritePage
  refine ok.call (szBuffer_ok sa.1.1) fun r hr => ?_
  refine ok.ite (fun _ => ok.some rfl) fun hc => ?_
  have hl : a.frames.length ≤ 1048576 := by omega
  have h1 := toBuf_len (a := a)
  have h2 := writeB_len (b := toBuf a) (p := p)
  repeat' (first | (with_reducible refine ok.some ?_) | (with_reducible refine ok.eq (toBuffer_eq hN (by omega)) ?_) | (with_reducible refine ok.eq (writeS hN (by omega)) ?_) | (with_reducible refine ok.eq (writeI hN (by omega)) ?_) | (with_reducible refine ok.eq (eqBuffer_self hN (by omega)) ?_) | (with_reducible refine ok.bt (beq_self_eq_true _) ?_) | (with_reducible refine ok.bt rfl ?_) | (with_reducible refine ok.eq (markBuffer_eq hN (by omega)) ?_) | (with_reducible refine ok.eq (heldBuffer_eq hN (by omega)) ?_) | (with_reducible refine ok.iff (by omega) ?_) | (with_reducible refine ok.ift rfl ?_) | (with_reducible refine ok.ite (fun hc => ?_) (fun hc => ?_)) | (with_reducible refine ok.cond (fun hc => ?_) (fun hc => ?_)) | (with_reducible refine ok.chk (by omega) ?_) | (with_reducible refine ok.bs ?_) | (with_reducible refine ok.remM (by omega) (fun _ hq => ?_)) | (with_reducible refine ok.quoM (by omega) (fun _ hq => ?_)) | (with_reducible refine ok.ix (by omega) (by omega) (fun q hq he => ?_)))
  all_goals rfl
theorem exactTouchPage (a : L_Buffer) (sa : Szd.szd a) (p : Int) (sp : Szd.szd p) (l : Int) (sl : Szd.szd l) : m_L_FnExactTouchPage N a p l = some true := by
  refine ok.val ?_
  unfold m_L_FnExactTouchPage
  refine ok.call (szBuffer_ok sa.1.1) fun r hr => ?_
  refine ok.ite (fun _ => ok.some rfl) fun hc => ?_
  have hl : a.frames.length ≤ 1048576 := by omega
  have h1 := toBuf_len (a := a)
  have h2 := touchB_len (b := toBuf a) (p := p) (l := l)
  repeat' (first | (with_reducible refine ok.some ?_) | (with_reducible refine ok.eq (toBuffer_eq hN (by omega)) ?_) | (with_reducible refine ok.eq (touchS hN (by omega)) ?_) | (with_reducible refine ok.eq (touchI hN (by omega)) ?_) | (with_reducible refine ok.eq (eqBuffer_self hN (by omega)) ?_) | (with_reducible refine ok.bt (beq_self_eq_true _) ?_) | (with_reducible refine ok.bt rfl ?_) | (with_reducible refine ok.eq (markBuffer_eq hN (by omega)) ?_) | (with_reducible refine ok.eq (heldBuffer_eq hN (by omega)) ?_) | (with_reducible refine ok.iff (by omega) ?_) | (with_reducible refine ok.ift rfl ?_) | (with_reducible refine ok.ite (fun hc => ?_) (fun hc => ?_)) | (with_reducible refine ok.cond (fun hc => ?_) (fun hc => ?_)) | (with_reducible refine ok.chk (by omega) ?_) | (with_reducible refine ok.bs ?_) | (with_reducible refine ok.remM (by omega) (fun _ hq => ?_)) | (with_reducible refine ok.quoM (by omega) (fun _ hq => ?_)) | (with_reducible refine ok.ix (by omega) (by omega) (fun q hq he => ?_)))
  all_goals rfl
end
end V
end Go.Proofs.Ytifcacahgiihoaa
