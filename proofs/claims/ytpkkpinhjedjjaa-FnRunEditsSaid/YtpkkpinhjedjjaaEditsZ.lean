/- The law over the edits' runs, drawn from any bytes, answers true and leaves its input as it was. Condition: none beyond the row's own. -/
import Derived.Test.YtpkkpinhjedjjaaRows
import Derived.Test.YtpkkpinhjedjjaaEditsF
import Derived.Test.YtpkkpinhjedjjaaOpen
import Derived.ProofKit
namespace Go.Proofs.Ytpkkpinhjedjjaa
open Go.ChangeShapes Go.WideShapes Go.ChangeAt Go.RowKit

namespace V
theorem own : ownKnob Try.prog.godebug = none := by kernel_rfl
theorem laidOut : laidOutB Try.prog = true := by kernel_rfl
end V
set_option maxRecDepth 100000 in
theorem fnRunEdits_lifted (os : Os) (started : os.Started) (H : Type) (enc : TypeId × Value → H) :
    ReturnsInHanded {} Try.checked os 3 .any (Rows.fnRunEditsSpec.pre6 enc Try.prog Try.f3 Rows.fnRunEditsRow.domain false) (Rows.fnRunEditsSpec.post enc Try.prog Try.f3 false true false false) := by
  refine returnsInHanded_of_change (C := Try.checked) V.own started (by kernel_rfl) Try.func3
    (ChangeSpec.witness6 (enc := enc) (C := Try.checked) false ⟨#[], #[.slice none 0 0], []⟩ 8 (by kernel_rfl) (by kernel_rfl) (by kernel_rfl) (by kernel_rfl)) ?_
  intro W base args ds gs before hval0 hW hcnd _
  have hval : ∀ (j : Nat) t v, Try.f3.params[j]? = some t → args[j]? = some v → Value.okWide Try.prog W .any base t v := hval0
  have hW' := hW
  obtain ⟨p, q, hA0, hV, rfl, hfz, hnd⟩ := hW
  have hA : DataW.TrodAll enc Try.prog W 0 (fun _ => true) true Try.f3.params.toList args.toList ds p := hA0
  rw [Try.params3] at hA hval
  obtain ⟨v0, d0, rfl, rfl, h0⟩ := trodAll_one hA
  obtain ⟨rfl, rfl⟩ := trodVars_none hV
  simp only [List.append_nil] at hW'
  have hlt : ∀ x ∈ p, x.block < W.heap.size := fun x hx => by simpa using hW'.lt x hx
  obtain ⟨a, l, cap, rfl, hs, hc, _, _⟩ := V.openInts (α := UInt8) Try.underlying22 Try.underlying5 (by kernel_rfl) V.u8_enc (hval 0 _ v0 rfl rfl) h0 hlt
  refine (V.lawRunEdits_any a cap l W hs hc).mono fun e W' ⟨he, hb⟩ => ?_
  subst he
  exact ⟨_, rfl, ⟨_, _, _, [], _, [], hW', trodAll_mk1 (shut_bool Try.underlying4 true), trodAll_mk1 (Below.trod V.laidOut (by kernel_rfl) (of_decide_eq_true (by kernel_rfl)) h0 hb hlt), rfl, hb.frame _, fun h => by cases h⟩⟩
theorem fnRunEdits_holds : Rows.FnRunEditsSaid :=
  OpenClaim.holds_of_wide 3 Try.f3 rfl rfl rfl rfl rfl rfl rfl ⟨rfl, rfl, rfl, rfl, rfl⟩ rfl rfl rfl rfl rfl (by kernel_rfl) Try.func3 (by kernel_rfl)
    (of_decide_eq_true (by kernel_rfl)) (by unfold Func.isWrapper; first | (rw [if_pos (by decide +kernel)]; kernel_rfl) | (rw [if_neg (by decide +kernel)]; exact ⟨rfl, rfl⟩))
    (fun os started H enc _ => fnRunEdits_lifted os started H enc)
end Go.Proofs.Ytpkkpinhjedjjaa
