/- The law that updated records are found answers true. No condition. -/
import Derived.Test.YtoljdhdfijnjiaaPlHpD
import Derived.Test.YtoljdhdfijnjiaaHpLDa
namespace Go.Proofs.Ytoljdhdfijnjiaa
namespace V
set_option linter.unusedVariables false
set_option linter.unusedSimpArgs false
section
variable {N : Nat} (hN : 100000000 ≤ N)
include hN
theorem heapUpdateLaw (l : List UInt8) (sl : Szd.szd l) : m_L_FnHeapUpdate N l = some true := by
  refine ok.val ?_
  unfold m_L_FnHeapUpdate
  refine ok.ite (fun _ => ok.some rfl) fun _ => ?_
  refine ok.call (drawHeapUpdate_ok hN l) ?_
  rintro ⟨h, r, d⟩ ⟨hp, hd⟩
  dsimp only at hp hd ⊢
  have hb := hp.hb
  have hl := hp.len
  refine ok.eq (updI hN hb (by omega)) ?_
  refine ok.eq (updS hN hb (by omega)) ?_
  by_cases ht : (hUpd h r d).2.2 = true
  · obtain ⟨hv, hvg, h1, h2, h3⟩ := upd_ok ht
    refine ok.eq (equalHeap_eq hN hvg.hb) ?_
    refine ok.ift rfl (ok.ift rfl (ok.bt (by simp) (ok.bt ht ?_)))
    refine ok.eq (scanI hN hb) ?_
    have hsc : hScan h = scanL h.pages 0 := if_pos hv
    have hsg : hScan (hUpd h r d).1 = scanL (hUpd h r d).1.pages 0 := if_pos hvg
    rw [hsc]
    have hln := scanL_len h.pages 0
    have hcn : cntH h.pages ≤ 48 := by
      have : ∀ l : List I_Page, (∀ p ∈ l, p.slots.length ≤ 8) → cntH l ≤ 8 * l.length := by
        intro l
        induction l with
        | nil => intro _; simp [cntH]
        | cons p l ih =>
          intro hq
          have := ih fun x hx => hq x (.tail _ hx)
          have h8 := hq p (.head _)
          have : cntS p.slots ≤ p.slots.length := List.countP_le_length
          simp [cntH]; omega
      have := this h.pages fun p hp => (hv.2 p hp).1
      have := hv.1
      omega
    refine ok.call (P := fun o => match o with | .inl _ => True | .inr v => v = true) (ok.each (scanL h.pages 0).length (fun i s => s = (i : Int)) _ ?_ ?_ N 0 0 (Nat.zero_le _) rfl (by omega)) ?_
    · rintro i _ hi rfl
      unfold m_L_FnHeapUpdate_b1
      refine ok.ift (show (i : Int) < ((scanL h.pages 0).length : Int) by omega) ?_
      refine ok.eq (ixI_nat hi) ?_
      refine ok.eq (gI hN hb) (ok.eq (gI hN hvg.hb) ?_)
      refine ok.ite (fun he => ok.chk (by omega) (ok.some ?_)) fun he => ?_
      · show _ = _
        omega
      have hone : (hGet h (scanL h.pages 0)[i]).2 = true := by
        obtain ⟨a, b, p, s, g1, g2, g3, g4⟩ := mem_scan.1 (List.getElem_mem hi)
        rw [g4, hGet_nat hv, g1]
        simp only [Option.bind_some, g2]
        simp [getO, g3]
      rw [h1 _ (List.getElem_mem hi) he]
      refine ok.bt hone (ok.bt hone (ok.bt (by simp) (ok.chk (by omega) (ok.some ?_))))
      show _ = _
      omega
    · rintro _ rfl
      unfold m_L_FnHeapUpdate_b1
      exact ok.iff (by omega) (ok.some trivial)
    · rintro (u | q) hr
      · show ok (m_L_FnHeapUpdate_k1 N _ _ _) _
        unfold m_L_FnHeapUpdate_k1
        refine ok.eq (gI hN hvg.hb) ?_
        dsimp only
        rw [h2]
        refine ok.bt rfl (ok.bt (by simp) (ok.eq (scanI hN hvg.hb) (ok.some (decide_eq_true ?_))))
        rw [hsg, scanL_len, hln, h3]
      · exact ok.some hr
  · have hf : (hUpd h r d).2.2 = false := by cases hq : (hUpd h r d).2.2 with | true => exact (ht hq).elim | false => rfl
    have hbg : HB (hUpd h r d).1.pages := by
      have hz : HB [] := ⟨by simp, fun p h => by cases h⟩
      unfold hUpd at hf ⊢; split
      · rename_i hv
        rw [if_pos hv] at hf
        split at hf
        · split at hf
          · cases hf
          · rename_i e2
            rw [if_neg e2]
            split at hf
            · rename_i e3
              rw [if_pos e3]
              unfold insP at hf ⊢
              split at hf
              · cases hf
              · split at hf
                · cases hf
                · rename_i e4 e5; rw [if_neg e5]; exact hz
            · rename_i e3; rw [if_neg e3]; exact hz
        · exact hz
      · exact hz
    refine ok.eq (equalHeap_eq hN hbg) ?_
    refine ok.ift rfl (ok.ift rfl (ok.bt (by simp) (ok.bf hf (ok.eq (equalHeap_eq hN hbg) (ok.ift rfl (ok.some (by simp)))))))
end
end V
end Go.Proofs.Ytoljdhdfijnjiaa
