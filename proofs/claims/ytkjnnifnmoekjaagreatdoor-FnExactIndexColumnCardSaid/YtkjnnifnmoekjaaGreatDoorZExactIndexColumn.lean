/- The row and the card of FnExactIndexColumn. -/
import Derived.Test.YtkjnnifnmoekjaaGreatDoorQIbH
import Derived.Test.YtkjnnifnmoekjaaGreatDoorTie
import Derived.Test.YtkjnnifnmoekjaaGreatDoorCards
namespace Go.Proofs.YtkjnnifnmoekjaaGreatDoor
namespace V
open Enc (enc)
set_option linter.unusedVariables false
set_option linter.unusedSimpArgs false
set_option maxHeartbeats 4000000
set_option maxRecDepth 100000
open Go.RowKit
attribute [local irreducible] thA inA FinA eL

end V
open Go.ChangeShapes Go.WideShapes Go.ChangeAt Go.RowKit
set_option maxRecDepth 100000 in
theorem fnExactIndexColumn_lifted (os : Os) (started : os.Started) (H : Type) (en : TypeId × Value → H) :
    ReturnsInHanded {} Tryz.checked os 5 .any (fun w args => (Rows.fnExactIndexColumnSpec.pre en Tryz.prog Tryz.f5 [] false w args ∧ laidMetH Tryz.prog V.seatLaid w) ∧ sizedMet en Tryz.prog Tryz.f5 (OpenSpec.ofChange Rows.fnExactIndexColumnSpec) false w args) (Rows.fnExactIndexColumnSpec.post en Tryz.prog Tryz.f5 false true false false) := by
  refine returnsInHanded_of_change_and (C := Tryz.checked) (X := fun w _ => laidMetH Tryz.prog V.seatLaid w) (fun _ _ _ hh h => h.of_heap hh) V.own started (by kernel_rfl) Tryz.func5
    (ChangeSpec.witness_shaped (enc := en) (C := Tryz.checked) (os := os) (X := fun w _ => laidMetH Tryz.prog V.seatLaid w) false (World.doorLaid Tryz.prog V.doorN os) #[.agg #[.slice none 0 0, .slice none 0 0, .slice none 0 0], .int .i64 0] 8 rfl (World.shaped_of_RefB (by kernel_rfl) (by kernel_rfl)) (by kernel_rfl) (by kernel_rfl) (by kernel_rfl) (V.door_met os _)) ?_
  intro W base args ds gs before hval0 hW hcnd _ hlaid _
  have hval : ∀ (j : Nat) t v, Tryz.f5.params[j]? = some t → args[j]? = some v → Value.okWide Tryz.prog W .any base t v := hval0
  have hW' := hW
  obtain ⟨p, q, hA0, hV, rfl, hfz, hnd⟩ := hW
  have hA : DataW.TrodAll en Tryz.prog W 0 (fun _ => true) true Tryz.f5.params.toList args.toList ds p := hA0
  rw [Tryz.params5] at hA hval
  obtain ⟨v0, v1, d0, d1, p0, p1, rfl, rfl, rfl, h0, h1⟩ := trodAll_two hA
  obtain ⟨rfl, rfl⟩ := trodVars_none hV
  simp only [List.append_nil] at hW'
  have hlt : ∀ x ∈ p0 ++ p1, x.block < W.heap.size := fun x hx => by simpa using hW'.lt x (by simpa using hx)
  obtain ⟨c0, rfl, _⟩ := okWide_struct Tryz.underlying26 (hval 0 _ v0 rfl rfl)
  obtain ⟨a0, r0, s0⟩ := V.Opn.argS (inferInstance : V.Opn Tryz.prog V.L_Table 26) h0
  obtain ⟨u1, rfl⟩ := okWide_int Tryz.underlying3 (hval 1 _ v1 rfl rfl)
  obtain ⟨a1, r1, s1⟩ := V.Opn.arg (inferInstance : V.Opn Tryz.prog Int 3) (fun _ => rfl) rfl h1
  refine (V.law_run (V.tabOk_laid hlaid) (V.w_L_FnExactIndexColumn 100000000 a0 a1 true (V.lawFnExactIndexColumn (Nat.le_refl _) a0 s0 a1 s1)) (V.args2 (r0 []) (r1 [] _ rfl))).mono fun e W' ⟨he, hb⟩ => ?_
  subst he
  exact ⟨_, rfl, ⟨_, _, _, [], _, [], hW', trodAll_mk1 (shut_bool Tryz.underlying4 true), trodAll_mk2 (Below.trod V.laidOut (by kernel_rfl) (of_decide_eq_true (by kernel_rfl)) h0 hb (fun x hx => hlt x (List.mem_append.2 (.inl (hx))))) (Below.trod V.laidOut (by kernel_rfl) (of_decide_eq_true (by kernel_rfl)) h1 hb (fun x hx => hlt x (List.mem_append.2 (.inr hx)))), rfl, hb.frame _, fun h => by cases h⟩⟩
set_option maxHeartbeats 4000000 in
theorem fnExactIndexColumn_holds : Rows.FnExactIndexColumnSaid :=
  OpenClaim.holds_of_wide 5 Tryz.f5 rfl rfl rfl rfl rfl rfl rfl ⟨rfl, rfl, rfl, rfl, rfl⟩ rfl rfl rfl rfl rfl (by kernel_rfl) Tryz.func5 (show joinedFacts Tryz.prog 5 Tryz.f5 Rows.fnExactIndexColumnSpec Rows.fnExactIndexColumnRow = true from by
      unfold joinedFacts
      simp only [Bool.and_eq_true]
      repeat' (with_reducible apply And.intro)
      all_goals first | (with_reducible exact V.mayE) | ((with_reducible refine V.lifted_of V.liftE ?_); rfl) | ((with_reducible refine V.make_of V.makeE ?_); rfl) | (as_aux_lemma => kernel_rfl))
    (of_decide_eq_true (by kernel_rfl)) (by unfold Func.isWrapper; first | (rw [if_pos (by decide +kernel)]; kernel_rfl) | (rw [if_neg (by decide +kernel)]; exact ⟨rfl, rfl⟩))
    (fun os started H enc _ => fnExactIndexColumn_lifted os started H enc)
set_option maxHeartbeats 4000000 in
theorem fnExactIndexColumn_card : Rows.FnExactIndexColumnCardSaid :=
  Claim7.holds_tied_plain_at .later [] Rows.fnExactIndexColumnCard.laidKinds Rows.fnExactIndexColumnCard.laidTests Rows.fnExactIndexColumnCard.stood.harness Rows.fnExactIndexColumnCard.stood.looks
    fnExactIndexColumn_holds (fun _ h => by cases h) (by kernel_rfl) (fun _ h => by cases h) fnExactIndexColumn_row_tie rfl ⟨rfl, rfl⟩ (by kernel_rfl) rfl
    (fun f fn hf hfn => by
      obtain rfl : f = 5 := Option.some.inj ((show Tryz.prog.funcNamed "loop.example/schemamigration/laws.FnExactIndexColumn" = some 5 by kernel_rfl).symm.trans hf) |>.symm
      obtain rfl : fn = Tryz.f5 := (Option.some.inj (Tryz.func5.symm.trans hfn)).symm
      exact ⟨by kernel_rfl, fun j t ht => by
        rw [Tryz.params5] at ht
        have hm : t ∈ [26, 3] := by simpa using Array.mem_of_getElem? ht
        have hall : ([26, 3].all fun u => !Tryz.prog.wantsStandIn u) = true := by kernel_rfl
        exact (show Tryz.prog.wantsStandIn t = false by simpa using List.all_eq_true.1 hall t hm)⟩)
    (by kernel_rfl)
end Go.Proofs.YtkjnnifnmoekjaaGreatDoor
