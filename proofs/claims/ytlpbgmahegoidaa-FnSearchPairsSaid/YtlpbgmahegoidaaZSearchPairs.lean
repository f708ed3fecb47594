/- The row of FnSearchPairs. -/
import Derived.Test.YtlpbgmahegoidaaQSpF
namespace Go.Proofs.Ytlpbgmahegoidaa
namespace V
open Enc (enc)
set_option linter.unusedVariables false
set_option linter.unusedSimpArgs false
set_option maxHeartbeats 4000000
set_option maxRecDepth 100000
open Go.RowKit
attribute [local irreducible] thA inA FinA eL

end V
open Go.ChangeShapes Go.WideShapes Go.ChangeAt Go.RowKit
set_option maxRecDepth 100000 in
theorem fnSearchPairs_lifted (os : Os) (started : os.Started) (H : Type) (en : TypeId × Value → H) :
    ReturnsInHanded {} Try.checked os 5 .any (Rows.fnSearchPairsSpec.pre6 en Try.prog Try.f5 Rows.fnSearchPairsRow.domain false) (Rows.fnSearchPairsSpec.post en Try.prog Try.f5 false true false false) := by
  refine returnsInHanded_of_change (C := Try.checked) V.own started (by kernel_rfl) Try.func5
    (ChangeSpec.witness6 (enc := en) (C := Try.checked) false ⟨#[], #[.slice none 0 0], []⟩ 8 (by kernel_rfl) (by kernel_rfl) (by kernel_rfl) (by kernel_rfl)) ?_
  intro W base args ds gs before hval0 hW hcnd _
  have hval : ∀ (j : Nat) t v, Try.f5.params[j]? = some t → args[j]? = some v → Value.okWide Try.prog W .any base t v := hval0
  have hW' := hW
  obtain ⟨p, q, hA0, hV, rfl, hfz, hnd⟩ := hW
  have hA : DataW.TrodAll en Try.prog W 0 (fun _ => true) true Try.f5.params.toList args.toList ds p := hA0
  rw [Try.params5] at hA hval
  obtain ⟨v0, d0, rfl, rfl, h0⟩ := trodAll_one hA
  obtain ⟨rfl, rfl⟩ := trodVars_none hV
  simp only [List.append_nil] at hW'
  have hlt : ∀ x ∈ p, x.block < W.heap.size := fun x hx => by simpa using hW'.lt x (by simpa using hx)
  obtain ⟨u0, l0, k0, rfl⟩ := okWide_slice Try.underlying49 (hval 0 _ v0 rfl rfl)
  obtain ⟨a0, r0, s0⟩ := V.Opn.arg (inferInstance : V.Opn Try.prog (List UInt8) 49) (fun _ => rfl) rfl h0
  refine (V.law_run (by trivial) (V.w_L_FnSearchPairs 100000000 a0 true (V.lawFnSearchPairs (Nat.le_refl _) a0 s0)) (V.args1 (r0 [] _ rfl))).mono fun e W' ⟨he, hb⟩ => ?_
  subst he
  exact ⟨_, rfl, ⟨_, _, _, [], _, [], hW', trodAll_mk1 (shut_bool Try.underlying4 true), trodAll_mk1 (Below.trod V.laidOut (by kernel_rfl) (of_decide_eq_true (by kernel_rfl)) h0 hb hlt), rfl, hb.frame _, fun h => by cases h⟩⟩
set_option maxHeartbeats 4000000 in
theorem fnSearchPairs_holds : Rows.FnSearchPairsSaid :=
  OpenClaim.holds_of_wide 5 Try.f5 rfl rfl rfl rfl rfl rfl rfl ⟨rfl, rfl, rfl, rfl, rfl⟩ rfl rfl rfl rfl rfl (by kernel_rfl) Try.func5 (show joinedFacts Try.prog 5 Try.f5 Rows.fnSearchPairsSpec Rows.fnSearchPairsRow = true from by
      unfold joinedFacts
      simp only [Bool.and_eq_true]
      repeat' (with_reducible apply And.intro)
      all_goals first | (with_reducible exact V.mayE) | ((with_reducible refine V.lifted_of V.liftE ?_); rfl) | ((with_reducible refine V.make_of V.makeE ?_); rfl) | (as_aux_lemma => kernel_rfl))
    (of_decide_eq_true (by kernel_rfl)) (by unfold Func.isWrapper; first | (rw [if_pos (by decide +kernel)]; kernel_rfl) | (rw [if_neg (by decide +kernel)]; exact ⟨rfl, rfl⟩))
    (fun os started H enc _ => fnSearchPairs_lifted os started H enc)
end Go.Proofs.Ytlpbgmahegoidaa
