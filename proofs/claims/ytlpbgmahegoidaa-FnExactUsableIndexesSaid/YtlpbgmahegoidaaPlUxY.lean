/- The exact law of usable indexes answers true, as a function of plain data. Condition: slices and texts are no longer than Go allows. -/
import Derived.Test.YtlpbgmahegoidaaPlUxX
import Derived.Test.YtlpbgmahegoidaaUxR
import Derived.Test.YtlpbgmahegoidaaUxYa
namespace Go.Proofs.Ytlpbgmahegoidaa
namespace V
set_option linter.unusedVariables false
set_option linter.unusedSimpArgs false
set_option maxRecDepth 100000
section
variable {N : Nat} (hN : 100000000 ≤ N)
include hN
theorem exactUsableIndexes (a : List L_Entry) (sa : Szd.szd a) (t : ByteArray) (st : Szd.szd t) (c : Bool) (sc : Szd.szd c) : m_L_FnExactUsableIndexes N a t c = some true := by
  refine ok.val ?_
  unfold m_L_FnExactUsableIndexes
  refine ok.ite (fun _ => ok.some rfl) fun ht => ?_
  refine ok.call (szEntryS_ok hN sa.1 (fun s hs => ⟨(sa.2 s hs).1, (sa.2 s hs).2.1⟩)) fun r hr => ?_
  refine ok.ite (fun _ => ok.some rfl) fun hc => ?_
  obtain ⟨h1, h2⟩ := hr.resolve_left hc
  have hb : EB (a.map toEntry) := ⟨by rw [List.length_map]; omega, fun e he => by
    obtain ⟨x, hx, rfl⟩ := List.mem_map.1 he
    have := (h2 x hx).1
    show x.name.size ≤ _
    omega⟩
  have f1 : (a.map toEntry).length = a.length := List.length_map _
  have f2 := useP_len (a.map toEntry) t c
  repeat' (first | (with_reducible refine ok.some ?_) | (with_reducible refine ok.eq (toEntryS_eq hN (by omega)) ?_) | (with_reducible refine ok.eq (useS hN hb _ _) ?_) | (with_reducible refine ok.eq (useI hN hb _ _) ?_) | (with_reducible refine ok.eq (eqStringS_self hN (by omega)) ?_) | (with_reducible refine ok.eq (eqEntryS_self hN (by omega)) ?_) | (with_reducible refine ok.bt rfl ?_) | (with_reducible refine ok.bt (beq_self_eq_true _) ?_) | (with_reducible refine ok.eq (markEntryS_eq hN (by omega) (by omega)) ?_) | (with_reducible refine ok.eq (markStringS_eq hN (by omega) (by omega)) ?_) | (with_reducible refine ok.eq (heldStringS_eq hN (by omega) (by omega)) ?_) | (with_reducible refine ok.iff (by omega) ?_) | (with_reducible refine ok.ift rfl ?_) | (with_reducible refine ok.ite (fun hc => ?_) (fun hc => ?_)) | (with_reducible refine ok.cond (fun hc => ?_) (fun hc => ?_)) | (with_reducible refine ok.chk (by omega) ?_) | (with_reducible refine ok.bs ?_) | (with_reducible refine ok.remM (by omega) (fun _ hq => ?_)) | (with_reducible refine ok.quoM (by omega) (fun _ hq => ?_)) | (with_reducible refine ok.ix (by omega) (by omega) (fun q hq he => ?_)))
  all_goals rfl
end
end V
end Go.Proofs.Ytlpbgmahegoidaa
