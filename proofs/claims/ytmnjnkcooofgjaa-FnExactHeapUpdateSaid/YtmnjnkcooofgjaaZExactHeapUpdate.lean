/- The law that the program updates records as the reference does answers true for every argument, and leaves its input as it was. Condition: none beyond the row's own. -/
import Derived.Test.YtmnjnkcooofgjaaQHuG
namespace Go.Proofs.Ytmnjnkcooofgjaa
namespace V
open Enc (enc)
set_option linter.unusedVariables false
set_option linter.unusedSimpArgs false
set_option maxHeartbeats 4000000
set_option maxRecDepth 100000
open Go.RowKit
attribute [local irreducible] thA inA FinA eL

end V
open Go.ChangeShapes Go.WideShapes Go.ChangeAt Go.RowKit
set_option maxRecDepth 100000 in
theorem fnExactHeapUpdate_lifted (os : Os) (started : os.Started) (H : Type) (en : TypeId × Value → H) :
    ReturnsInHanded {} Try.checked os 5 .any (Rows.fnExactHeapUpdateSpec.pre6 en Try.prog Try.f5 Rows.fnExactHeapUpdateRow.domain false) (Rows.fnExactHeapUpdateSpec.post en Try.prog Try.f5 false true false false) := by
  refine returnsInHanded_of_change (C := Try.checked) V.own started (by kernel_rfl) Try.func5
    (ChangeSpec.witness6 (enc := en) (C := Try.checked) false ⟨#[], #[.agg #[.slice none 0 0], .agg #[.int .i64 0, .int .i64 0], .string ByteArray.empty], []⟩ 8 (by kernel_rfl) (by kernel_rfl) (by kernel_rfl) (by kernel_rfl)) ?_
  intro W base args ds gs before hval0 hW hcnd _
  have hval : ∀ (j : Nat) t v, Try.f5.params[j]? = some t → args[j]? = some v → Value.okWide Try.prog W .any base t v := hval0
  have hW' := hW
  obtain ⟨p, q, hA0, hV, rfl, hfz, hnd⟩ := hW
  have hA : DataW.TrodAll en Try.prog W 0 (fun _ => true) true Try.f5.params.toList args.toList ds p := hA0
  rw [Try.params5] at hA hval
  obtain ⟨v0, v1, v2, d0, d1, d2, p0, p1, p2, rfl, rfl, rfl, h0, h1, h2⟩ := trodAll_three hA
  obtain ⟨rfl, rfl⟩ := trodVars_none hV
  simp only [List.append_nil] at hW'
  have hlt : ∀ x ∈ p0 ++ p1 ++ p2, x.block < W.heap.size := fun x hx => by simpa using hW'.lt x (by simpa using hx)
  obtain ⟨c0, rfl, _⟩ := okWide_struct Try.underlying24 (hval 0 _ v0 rfl rfl)
  obtain ⟨a0, r0, s0⟩ := V.Opn.argS (inferInstance : V.Opn Try.prog V.L_Heap 24) h0
  obtain ⟨c1, rfl, _⟩ := okWide_struct Try.underlying26 (hval 1 _ v1 rfl rfl)
  obtain ⟨a1, r1, s1⟩ := V.Opn.argS (inferInstance : V.Opn Try.prog V.L_Rid 26) h1
  obtain ⟨u2, rfl⟩ := okWide_string Try.underlying9 (hval 2 _ v2 rfl rfl)
  obtain ⟨a2, r2, s2⟩ := V.Opn.arg (inferInstance : V.Opn Try.prog ByteArray 9) (fun _ => rfl) rfl h2
  refine (V.law_run (by trivial) (V.w_L_FnExactHeapUpdate 100000000 a0 a1 a2 true (V.exactHeapUpdate (Nat.le_refl _) a0 s0 a1 s1 a2 s2)) (V.args3 (r0 []) (r1 []) (r2 [] _ rfl))).mono fun e W' ⟨he, hb⟩ => ?_
  subst he
  exact ⟨_, rfl, ⟨_, _, _, [], _, [], hW', trodAll_mk1 (shut_bool Try.underlying4 true), trodAll_mk3 (Below.trod V.laidOut (by kernel_rfl) (of_decide_eq_true (by kernel_rfl)) h0 hb (fun x hx => hlt x (List.mem_append.2 (.inl (List.mem_append.2 (.inl (hx))))))) (Below.trod V.laidOut (by kernel_rfl) (of_decide_eq_true (by kernel_rfl)) h1 hb (fun x hx => hlt x (List.mem_append.2 (.inl (List.mem_append.2 (.inr hx)))))) (Below.trod V.laidOut (by kernel_rfl) (of_decide_eq_true (by kernel_rfl)) h2 hb (fun x hx => hlt x (List.mem_append.2 (.inr hx)))), rfl, hb.frame _, fun h => by cases h⟩⟩
set_option maxHeartbeats 4000000 in
theorem fnExactHeapUpdate_holds : Rows.FnExactHeapUpdateSaid :=
  OpenClaim.holds_of_wide 5 Try.f5 rfl rfl rfl rfl rfl rfl rfl ⟨rfl, rfl, rfl, rfl, rfl⟩ rfl rfl rfl rfl rfl (by kernel_rfl) Try.func5 (show joinedFacts Try.prog 5 Try.f5 Rows.fnExactHeapUpdateSpec Rows.fnExactHeapUpdateRow = true from by
      unfold joinedFacts
      simp only [Bool.and_eq_true]
      repeat' (with_reducible apply And.intro)
      all_goals first | (with_reducible exact V.mayE) | ((with_reducible refine V.lifted_of V.liftE ?_); rfl) | ((with_reducible refine V.make_of V.makeE ?_); rfl) | (as_aux_lemma => kernel_rfl))
    (of_decide_eq_true (by kernel_rfl)) (by unfold Func.isWrapper; first | (rw [if_pos (by decide +kernel)]; kernel_rfl) | (rw [if_neg (by decide +kernel)]; exact ⟨rfl, rfl⟩))
    (fun os started H enc _ => fnExactHeapUpdate_lifted os started H enc)
end Go.Proofs.Ytmnjnkcooofgjaa
