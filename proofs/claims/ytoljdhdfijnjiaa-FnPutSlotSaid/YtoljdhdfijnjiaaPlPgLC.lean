/- The law that what is put can be got answers true. No condition. -/
import Derived.Test.YtoljdhdfijnjiaaPlPgF
import Derived.Test.YtoljdhdfijnjiaaPgLCa
namespace Go.Proofs.Ytoljdhdfijnjiaa
namespace V
set_option linter.unusedVariables false
set_option linter.unusedSimpArgs false
section
variable {N : Nat} (hN : 100000000 ≤ N)
include hN
theorem putSlotLaw (l : List UInt8) (sl : Szd.szd l) : m_L_FnPutSlot N l = some true := by
  refine ok.val ?_
  unfold m_L_FnPutSlot
  refine ok.ite (fun _ => ok.some rfl) fun _ => ?_
  refine ok.call (drawPutSlot_ok hN l) ?_
  rintro ⟨p, d⟩ ⟨hp, hd⟩
  dsimp only at hp hd ⊢
  have hpb := hp.pb (by omega)
  have hl := hp.len
  refine ok.eq (putI hN hpb (by omega)) ?_
  refine ok.eq (putS hN hpb (by omega)) ?_
  have hql := (put_sm p d).len
  refine ok.eq (equalSlots_eq hN (by omega)) ?_
  refine ok.ift rfl (ok.ift rfl (ok.bt (by simp) ?_))
  rcases put_cases p d with h | ⟨hv, h1, h2⟩
  · rw [h]
    exact ok.bf rfl (ok.eq (equalSlots_eq hN (by simp)) (ok.ift rfl (ok.some rfl)))
  · rw [h2] at hql ⊢
    refine ok.bt rfl ?_
    have hfa := freeAt_le p.slots
    have hqb := h1.sm.pb (by omega)
    refine ok.call (P := fun o => match o with | .inl _ => True | .inr v => v = true) (ok.each p.slots.length (fun i s => s = (i : Int)) _ ?_ ?_ N 0 0 (Nat.zero_le _) rfl (by omega)) ?_
    · rintro i _ hi rfl
      unfold m_L_FnPutSlot_b1
      refine ok.ift (show (i : Int) < (p.slots.length : Int) by omega) ?_
      refine ok.eq (getI hN hpb) ?_
      refine ok.eq (getI hN hqb) ?_
      dsimp only
      rw [getP_nat hv, getP_nat h1]
      refine ok.ite (fun he => ?_) fun hne => ?_
      · have he : i = freeAt p.slots := by omega
        have : getO p.slots[i]? = (ByteArray.empty, false) := by
          subst he; rw [List.getElem?_eq_getElem hi, vP_dead hv hi (freeAt_free hi)]; rfl
        rw [this]
        refine ok.bf rfl (ok.chk (by omega) (ok.some ?_))
        show _ = _
        omega
      · have : (withS p.slots (freeAt p.slots) ⟨true, d⟩)[i]? = p.slots[i]? := withS_other hi (by omega)
        dsimp only
        rw [this]
        refine ok.bt (by simp) (ok.bt (by simp) (ok.chk (by omega) (ok.some ?_)))
        show _ = _
        omega
    · rintro _ rfl
      unfold m_L_FnPutSlot_b1
      exact ok.iff (show ¬ (p.slots.length : Int) < (p.slots.length : Int) by omega) (ok.some trivial)
    · rintro (u | r) hr
      · show ok (m_L_FnPutSlot_k1 N _ _) _
        unfold m_L_FnPutSlot_k1
        refine ok.eq (getI hN hqb) ?_
        dsimp only
        rw [getP_nat h1]
        dsimp only
        rw [withS_self hfa]
        refine ok.bt rfl (ok.bt (by simp [getO]) (ok.eq (validPI hN hqb) (ok.some (decide_eq_true h1))))
      · exact ok.some hr
end
end V
end Go.Proofs.Ytoljdhdfijnjiaa
