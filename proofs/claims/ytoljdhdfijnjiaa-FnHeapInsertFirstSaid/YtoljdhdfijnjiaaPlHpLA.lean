/- The law that the first page with room is used answers true. No condition. -/
import Derived.Test.YtoljdhdfijnjiaaPlHpD
import Derived.Test.YtoljdhdfijnjiaaHpLAa
namespace Go.Proofs.Ytoljdhdfijnjiaa
namespace V
set_option linter.unusedVariables false
set_option linter.unusedSimpArgs false
section
variable {N : Nat} (hN : 100000000 ≤ N)
include hN
theorem heapInsertFirstLaw (l : List UInt8) (sl : Szd.szd l) : m_L_FnHeapInsertFirst N l = some true := by
  refine ok.val ?_
  unfold m_L_FnHeapInsertFirst
  refine ok.ite (fun _ => ok.some rfl) fun _ => ?_
  refine ok.call (drawHeapInsert_ok hN l) ?_
  rintro ⟨h, d⟩ ⟨hp, hd⟩
  dsimp only at hp hd ⊢
  have hb := hp.hb
  have hl := hp.len
  refine ok.eq (insI hN hb (by omega)) ?_
  refine ok.eq (hInsS hN hb (by omega)) ?_
  by_cases ht : (hIns h d).2.2 = true
  · have hv : vH h := by
      unfold hIns at ht; split at ht
      · assumption
      · cases ht
    have he : hIns h d = insP h.pages d := if_pos hv
    rw [he] at ht ⊢
    obtain ⟨hvg, _⟩ := ins_ok hv ht
    obtain ⟨k, p, hkl, _, _, _, h3, _, h5, h6, _⟩ := ins_true ht
    refine ok.eq (equalHeap_eq hN hvg.hb) ?_
    refine ok.ift rfl (ok.ift rfl (ok.bt (by simp) (ok.bt ht ?_)))
    refine ok.call (P := fun o => match o with | .inl _ => True | .inr v => v = true) (ok.each k (fun i s => s = (i : Int)) _ ?_ ?_ N 0 0 (Nat.zero_le _) rfl (by omega)) ?_
    · rintro i _ hi rfl
      have hi' : i < h.pages.length := by omega
      unfold m_L_FnHeapInsertFirst_b1
      rw [h3]
      refine ok.ift (show (i : Int) < (k : Int) by omega) ?_
      refine ok.eq (ixI_nat hi') ?_
      refine ok.eq (putI hN (hb.pg _ (List.getElem_mem hi')) (by dsimp only; omega)) ?_
      refine ok.bf (h6 i _ hi (List.getElem?_eq_getElem hi')) ?_
      refine ok.chk (by omega) (ok.some ?_)
      show _ = _
      omega
    · rintro _ rfl
      unfold m_L_FnHeapInsertFirst_b1
      rw [h3]
      exact ok.iff (show ¬ (k : Int) < (k : Int) by omega) (ok.some trivial)
    · rintro (u | r) hr
      · show ok (m_L_FnHeapInsertFirst_k1 N _ _) _
        unfold m_L_FnHeapInsertFirst_k1
        rw [h3, h5]
        refine ok.chk (by dsimp only; omega) (ok.some (decide_eq_true ?_))
        dsimp only
        omega
      · exact ok.some hr
  · have hf : (hIns h d).2.2 = false := by cases hq : (hIns h d).2.2 with | true => exact (ht hq).elim | false => rfl
    have hbg : HB (hIns h d).1.pages := by
      unfold hIns at hf ⊢; split
      · rename_i hv
        rw [if_pos hv] at hf
        unfold insP at hf ⊢
        split at hf
        · cases hf
        · split at hf
          · cases hf
          · rename_i e1 e2; rw [if_neg e2]; exact ⟨by simp, fun p h => by cases h⟩
      · exact ⟨by simp, fun p h => by cases h⟩
    refine ok.eq (equalHeap_eq hN hbg) ?_
    refine ok.ift rfl (ok.ift rfl (ok.bt (by simp) (ok.bf hf (ok.eq (equalHeap_eq hN hbg) (ok.ift rfl (ok.some (by simp)))))))
end
end V
end Go.Proofs.Ytoljdhdfijnjiaa
