/- The exact laws of the pages answer true, as functions of plain data. Condition: slices and texts are no longer than Go allows. -/
import Derived.Test.YtoljdhdfijnjiaaPlPgD
import Derived.Test.YtoljdhdfijnjiaaPlPgX
import Derived.Test.YtoljdhdfijnjiaaPgXR
import Derived.Test.YtoljdhdfijnjiaaPgYAa
import Derived.Test.YtoljdhdfijnjiaaPgYBa
import Derived.Test.YtoljdhdfijnjiaaPgYCa
namespace Go.Proofs.Ytoljdhdfijnjiaa
namespace V
set_option linter.unusedVariables false
set_option linter.unusedSimpArgs false
set_option maxRecDepth 100000
section
variable {N : Nat} (hN : 100000000 ≤ N)
include hN
omit hN in
theorem toPg_len {a : L_Page} : (toPg a).slots.length = a.slots.length := by simp [toPg]
omit hN in
theorem toPg_pb {a : L_Page} (h1 : a.slots.length ≤ 1048576) (h2 : ∀ s ∈ a.slots, s.data.size ≤ 1048576) : PB (toPg a).slots := ⟨by rw [toPg_len]; omega, fun s hs => by
  obtain ⟨x, hx, rfl⟩ := List.mem_map.1 hs
  have := h2 x hx
  show x.data.size ≤ _
  omega⟩
theorem exactClearSlot (a : L_Page) (sa : Szd.szd a) (k : Int) (sk : Szd.szd k) : m_L_FnExactClearSlot N a k = some true := by
  refine ok.val ?_
  unfold m_L_FnExactClearSlot
  refine ok.call (szPage_ok hN sa.1 (fun s hs => (sa.2 s hs).2)) fun r hr => ?_
  refine ok.ite (fun _ => ok.some rfl) fun hc => ?_
  have hr : a.slots.length ≤ 1048576 ∧ ∀ s ∈ a.slots, s.data.size ≤ 1048576 := hr.resolve_left hc
  have hl := hr.1
  have h1 := toPg_len (a := a)
  have hb := toPg_pb hr.1 hr.2
  have h2 := (clear_sm (toPg a) k).len
  repeat' (first | (with_reducible refine ok.some ?_) | (with_reducible refine ok.eq (toPage_eq hN (by omega)) ?_) | (with_reducible refine ok.eq (clearS hN hb) ?_) | (with_reducible refine ok.eq (clearI hN hb) ?_) | (with_reducible refine ok.eq (eqPage_self hN (by omega)) ?_) | (with_reducible refine ok.bt (beq_self_eq_true _) ?_) | (with_reducible refine ok.bt rfl ?_) | (with_reducible refine ok.eq (markPage_eq hN (by omega)) ?_) | (with_reducible refine ok.eq (heldPage_eq hN (by omega)) ?_) | (with_reducible refine ok.iff (by omega) ?_) | (with_reducible refine ok.ift rfl ?_) | (with_reducible refine ok.ite (fun hc => ?_) (fun hc => ?_)) | (with_reducible refine ok.cond (fun hc => ?_) (fun hc => ?_)) | (with_reducible refine ok.chk (by omega) ?_) | (with_reducible refine ok.bs ?_) | (with_reducible refine ok.remM (by omega) (fun _ hq => ?_)) | (with_reducible refine ok.quoM (by omega) (fun _ hq => ?_)) | (with_reducible refine ok.ix (by omega) (by omega) (fun q hq he => ?_)))
  all_goals rfl
theorem exactSetSlot (a : L_Page) (sa : Szd.szd a) (k : Int) (sk : Szd.szd k) (d : ByteArray) (sd : Szd.szd d) : m_L_FnExactSetSlot N a k d = some true := by
  refine ok.val ?_
  unfold m_L_FnExactSetSlot
  refine ok.ite (fun _ => ok.some rfl) fun hd => ?_
  refine ok.call (szPage_ok hN sa.1 (fun s hs => (sa.2 s hs).2)) fun r hr => ?_
  refine ok.ite (fun _ => ok.some rfl) fun hc => ?_
  have hr : a.slots.length ≤ 1048576 ∧ ∀ s ∈ a.slots, s.data.size ≤ 1048576 := hr.resolve_left hc
  have hl := hr.1
  have h1 := toPg_len (a := a)
  have hb := toPg_pb hr.1 hr.2
  have h2 := (set_sm (toPg a) k d).len
  repeat' (first | (with_reducible refine ok.some ?_) | (with_reducible refine ok.eq (toPage_eq hN (by omega)) ?_) | (with_reducible refine ok.eq (setS hN hb (by omega)) ?_) | (with_reducible refine ok.eq (setI hN hb (by omega)) ?_) | (with_reducible refine ok.eq (eqPage_self hN (by omega)) ?_) | (with_reducible refine ok.bt (beq_self_eq_true _) ?_) | (with_reducible refine ok.bt rfl ?_) | (with_reducible refine ok.eq (markPage_eq hN (by omega)) ?_) | (with_reducible refine ok.eq (heldPage_eq hN (by omega)) ?_) | (with_reducible refine ok.iff (by omega) ?_) | (with_reducible refine ok.ift rfl ?_) | (with_reducible refine ok.ite (fun hc => ?_) (fun hc => ?_)) | (with_reducible refine ok.cond (fun hc => ?_) (fun hc => ?_)) | (with_reducible refine ok.chk (by omega) ?_) | (with_reducible refine ok.bs ?_) | (with_reducible refine ok.remM (by omega) (fun _ hq => ?_)) | (with_reducible refine ok.quoM (by omega) (fun _ hq => ?_)) | (with_reducible refine ok.ix (by omega) (by omega) (fun q hq he => ?_)))
  all_goals rfl
theorem exactPutSlot (a : L_Page) (sa : Szd.szd a) (d : ByteArray) (sd : Szd.szd d) : m_L_FnExactPutSlot N a d = some true := by
  refine ok.val ?_
  unfold m_L_FnExactPutSlot
  refine ok.ite (fun _ => ok.some rfl) fun hd => ?_
  refine ok.call (szPage_ok hN sa.1 (fun s hs => (sa.2 s hs).2)) fun r hr => ?_
  refine ok.ite (fun _ => ok.some rfl) fun hc => ?_
  have hr : a.slots.length ≤ 1048576 ∧ ∀ s ∈ a.slots, s.data.size ≤ 1048576 := hr.resolve_left hc
  have hl := hr.1
  have h1 := toPg_len (a := a)
  have hb := toPg_pb hr.1 hr.2
  have h2 := (put_sm (toPg a) d).len
  repeat' (first | (with_reducible refine ok.some ?_) | (with_reducible refine ok.eq (toPage_eq hN (by omega)) ?_) | (with_reducible refine ok.eq (putS hN hb (by omega)) ?_) | (with_reducible refine ok.eq (putI hN hb (by omega)) ?_) | (with_reducible refine ok.eq (eqPage_self hN (by omega)) ?_) | (with_reducible refine ok.bt (beq_self_eq_true _) ?_) | (with_reducible refine ok.bt rfl ?_) | (with_reducible refine ok.eq (markPage_eq hN (by omega)) ?_) | (with_reducible refine ok.eq (heldPage_eq hN (by omega)) ?_) | (with_reducible refine ok.iff (by omega) ?_) | (with_reducible refine ok.ift rfl ?_) | (with_reducible refine ok.ite (fun hc => ?_) (fun hc => ?_)) | (with_reducible refine ok.cond (fun hc => ?_) (fun hc => ?_)) | (with_reducible refine ok.chk (by omega) ?_) | (with_reducible refine ok.bs ?_) | (with_reducible refine ok.remM (by omega) (fun _ hq => ?_)) | (with_reducible refine ok.quoM (by omega) (fun _ hq => ?_)) | (with_reducible refine ok.ix (by omega) (by omega) (fun q hq he => ?_)))
  all_goals rfl
end
end V
end Go.Proofs.Ytoljdhdfijnjiaa
