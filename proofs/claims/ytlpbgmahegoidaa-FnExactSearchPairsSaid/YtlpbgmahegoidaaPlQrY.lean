/- The exact law of the search of pairs answers true, as a function of plain data. Condition: slices and texts are no longer than Go allows. -/
import Derived.Test.YtlpbgmahegoidaaPlQrX
import Derived.Test.YtlpbgmahegoidaaQrR
import Derived.Test.YtlpbgmahegoidaaQrYa
namespace Go.Proofs.Ytlpbgmahegoidaa
namespace V
set_option linter.unusedVariables false
set_option linter.unusedSimpArgs false
set_option maxRecDepth 100000
section
variable {N : Nat} (hN : 100000000 ≤ N)
include hN
theorem exactSearchPairs (a : List L_Pair) (sa : Szd.szd a) (lo : L_Value) (slo : Szd.szd lo) (hi : L_Value) (shi : Szd.szd hi) : m_L_FnExactSearchPairs N a lo hi = some true := by
  refine ok.val ?_
  unfold m_L_FnExactSearchPairs
  refine ok.call (szPairS_ok hN sa.1 (fun s hs => (sa.2 s hs).1)) fun r hr => ?_
  refine ok.ite (fun _ => ok.some rfl) fun hc => ?_
  have hr := hr.resolve_left hc
  refine ok.call (szValue_ok N slo.2.2 ⟨hr.1, hr.2.1⟩) fun r2 hr2 => ?_
  refine ok.ite (fun _ => ok.some rfl) fun hc2 => ?_
  have hr2 := hr2.resolve_left hc2
  refine ok.call (szValue_ok N shi.2.2 ⟨hr2.1, hr2.2.1⟩) fun r3 hr3 => ?_
  refine ok.ite (fun _ => ok.some rfl) fun hc3 => ?_
  have hr3 := hr3.resolve_left hc3
  have g1 : (⟨lo.kind, lo.num, lo.text⟩ : I_Value).text.size ≤ 5000000 := by show lo.text.size ≤ _; omega
  have g2 : (⟨hi.kind, hi.num, hi.text⟩ : I_Value).text.size ≤ 5000000 := by show hi.text.size ≤ _; omega
  have f1 : (a.map toPair).length = a.length := List.length_map _
  have f2 := serP_len (a.map toPair) ⟨lo.kind, lo.num, lo.text⟩ ⟨hi.kind, hi.num, hi.text⟩
  have tv : ∀ x : L_Value, m_L_toValue N x = some ⟨x.kind, x.num, x.text⟩ := fun x => rfl
  repeat' (first | (with_reducible refine ok.some ?_) | (with_reducible refine ok.eq (toPairS_eq hN (by omega)) ?_) | (with_reducible refine ok.eq (tv _) ?_) | (with_reducible refine ok.eq (serS hN g1 g2) ?_) | (with_reducible refine ok.eq (serI hN g1 g2) ?_) | (with_reducible refine ok.eq (eqIntS_self hN (by omega)) ?_) | (with_reducible refine ok.eq (eqPairS_self hN (by omega)) ?_) | (with_reducible refine ok.bt rfl ?_) | (with_reducible refine ok.eq (markPairS_eq hN (by omega) (by omega)) ?_) | (with_reducible refine ok.eq (markIntS_eq hN (by omega) (by omega)) ?_) | (with_reducible refine ok.eq (heldIntS_eq hN (by omega) (by omega)) ?_) | (with_reducible refine ok.iff (by omega) ?_) | (with_reducible refine ok.ift rfl ?_) | (with_reducible refine ok.ite (fun hc => ?_) (fun hc => ?_)) | (with_reducible refine ok.cond (fun hc => ?_) (fun hc => ?_)) | (with_reducible refine ok.chk (by omega) ?_) | (with_reducible refine ok.bs ?_) | (with_reducible refine ok.remM (by omega) (fun _ hq => ?_)) | (with_reducible refine ok.quoM (by omega) (fun _ hq => ?_)) | (with_reducible refine ok.ix (by omega) (by omega) (fun q hq he => ?_)))
  all_goals rfl
end
end V
end Go.Proofs.Ytlpbgmahegoidaa
