/- The row and the card of FnSessionPrefix. -/
import Derived.Test.YtemmcidmcojjjaaGreatDoorQSwH
import Derived.Test.YtemmcidmcojjjaaGreatDoorTie
import Derived.Test.YtemmcidmcojjjaaGreatDoorCards
namespace Go.Proofs.YtemmcidmcojjjaaGreatDoor
namespace V
open Enc (enc)
set_option linter.unusedVariables false
set_option linter.unusedSimpArgs false
set_option maxHeartbeats 4000000
set_option maxRecDepth 100000
open Go.RowKit
attribute [local irreducible] thA inA FinA eL

end V
open Go.ChangeShapes Go.WideShapes Go.ChangeAt Go.RowKit
set_option maxRecDepth 100000 in
theorem fnSessionPrefix_lifted (os : Os) (started : os.Started) (H : Type) (en : TypeId × Value → H) :
    ReturnsInHanded {} Tryz.checked os 6 .any (fun w args => (Rows.fnSessionPrefixSpec.pre en Tryz.prog Tryz.f6 [] false w args ∧ laidMetH Tryz.prog V.seatLaid w) ∧ sizedMet en Tryz.prog Tryz.f6 (OpenSpec.ofChange Rows.fnSessionPrefixSpec) false w args) (Rows.fnSessionPrefixSpec.post en Tryz.prog Tryz.f6 false true false false) := by
  refine returnsInHanded_of_change_and (C := Tryz.checked) (X := fun w _ => laidMetH Tryz.prog V.seatLaid w) (fun _ _ _ hh h => h.of_heap hh) V.own started (by kernel_rfl) Tryz.func6
    (ChangeSpec.witness_shaped (enc := en) (C := Tryz.checked) (os := os) (X := fun w _ => laidMetH Tryz.prog V.seatLaid w) false (World.laidAll Tryz.prog os V.seatLaid) #[.slice none 0 0] 8 (World.laidAll_os _ _ _) (World.shaped_of_ZipB (by kernel_rfl) (by kernel_rfl)) (by kernel_rfl) (by kernel_rfl) (by kernel_rfl) (V.laid_met os _)) ?_
  intro W base args ds gs before hval0 hW hcnd _ hlaid _
  have hval : ∀ (j : Nat) t v, Tryz.f6.params[j]? = some t → args[j]? = some v → Value.okWide Tryz.prog W .any base t v := hval0
  have hW' := hW
  obtain ⟨p, q, hA0, hV, rfl, hfz, hnd⟩ := hW
  have hA : DataW.TrodAll en Tryz.prog W 0 (fun _ => true) true Tryz.f6.params.toList args.toList ds p := hA0
  rw [Tryz.params6] at hA hval
  obtain ⟨v0, d0, rfl, rfl, h0⟩ := trodAll_one hA
  obtain ⟨rfl, rfl⟩ := trodVars_none hV
  simp only [List.append_nil] at hW'
  have hlt : ∀ x ∈ p, x.block < W.heap.size := fun x hx => by simpa using hW'.lt x (by simpa using hx)
  obtain ⟨u0, l0, k0, rfl⟩ := okWide_slice Tryz.underlying22 (hval 0 _ v0 rfl rfl)
  obtain ⟨a0, r0, s0⟩ := V.Opn.arg (inferInstance : V.Opn Tryz.prog (List UInt8) 22) (fun _ => rfl) rfl h0
  refine (V.law_run (V.tabOk_laid hlaid) (V.w_L_FnSessionPrefix 100000000 a0 true (V.lawFnSessionPrefix (Nat.le_refl _) a0 s0)) (V.args1 (r0 [] _ rfl))).mono fun e W' ⟨he, hb⟩ => ?_
  subst he
  exact ⟨_, rfl, ⟨_, _, _, [], _, [], hW', trodAll_mk1 (shut_bool Tryz.underlying4 true), trodAll_mk1 (Below.trod V.laidOut (by kernel_rfl) (of_decide_eq_true (by kernel_rfl)) h0 hb hlt), rfl, hb.frame _, fun h => by cases h⟩⟩
set_option maxHeartbeats 4000000 in
theorem fnSessionPrefix_holds : Rows.FnSessionPrefixSaid :=
  OpenClaim.holds_of_wide 6 Tryz.f6 rfl rfl rfl rfl rfl rfl rfl ⟨rfl, rfl, rfl, rfl, rfl⟩ rfl rfl rfl rfl rfl (by kernel_rfl) Tryz.func6 (show joinedFacts Tryz.prog 6 Tryz.f6 Rows.fnSessionPrefixSpec Rows.fnSessionPrefixRow = true from by
      unfold joinedFacts
      simp only [Bool.and_eq_true]
      repeat' (with_reducible apply And.intro)
      all_goals first | (with_reducible exact V.mayE) | ((with_reducible refine V.lifted_of V.liftE ?_); rfl) | ((with_reducible refine V.make_of V.makeE ?_); rfl) | (as_aux_lemma => kernel_rfl))
    (of_decide_eq_true (by kernel_rfl)) (by unfold Func.isWrapper; first | (rw [if_pos (by decide +kernel)]; kernel_rfl) | (rw [if_neg (by decide +kernel)]; exact ⟨rfl, rfl⟩))
    (fun os started H enc _ => fnSessionPrefix_lifted os started H enc)
set_option maxHeartbeats 4000000 in
theorem fnSessionPrefix_card : Rows.FnSessionPrefixCardSaid :=
  Claim7.holds_tied_plain_at .later [] Rows.fnSessionPrefixCard.laidKinds Rows.fnSessionPrefixCard.laidTests Rows.fnSessionPrefixCard.stood.harness Rows.fnSessionPrefixCard.stood.looks
    fnSessionPrefix_holds (fun _ h => by cases h) (by kernel_rfl) (fun _ h => by cases h) fnSessionPrefix_row_tie rfl ⟨rfl, rfl⟩ (by kernel_rfl) rfl
    (fun f fn hf hfn => by
      obtain rfl : f = 6 := Option.some.inj ((show Tryz.prog.funcNamed "loop.example/schemamigration/laws.FnSessionPrefix" = some 6 by kernel_rfl).symm.trans hf) |>.symm
      obtain rfl : fn = Tryz.f6 := (Option.some.inj (Tryz.func6.symm.trans hfn)).symm
      exact ⟨by kernel_rfl, fun j t ht => by
        rw [Tryz.params6] at ht
        have hm : t ∈ [22] := by simpa using Array.mem_of_getElem? ht
        have hall : ([22].all fun u => !Tryz.prog.wantsStandIn u) = true := by kernel_rfl
        exact (show Tryz.prog.wantsStandIn t = false by simpa using List.all_eq_true.1 hall t hm)⟩)
    (by kernel_rfl)
end Go.Proofs.YtemmcidmcojjjaaGreatDoor
