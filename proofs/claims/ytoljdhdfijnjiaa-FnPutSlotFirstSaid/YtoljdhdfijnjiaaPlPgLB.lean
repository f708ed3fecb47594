/- The law that free slots are used first answers true. No condition. -/
import Derived.Test.YtoljdhdfijnjiaaPlPgF
import Derived.Test.YtoljdhdfijnjiaaPgLBa
namespace Go.Proofs.Ytoljdhdfijnjiaa
namespace V
set_option linter.unusedVariables false
set_option linter.unusedSimpArgs false
section
variable {N : Nat} (hN : 100000000 ≤ N)
include hN
theorem putSlotFirstLaw (l : List UInt8) (sl : Szd.szd l) : m_L_FnPutSlotFirst N l = some true := by
  refine ok.val ?_
  unfold m_L_FnPutSlotFirst
  refine ok.ite (fun _ => ok.some rfl) fun _ => ?_
  refine ok.call (drawPutSlot_ok hN l) ?_
  rintro ⟨p, d⟩ ⟨hp, hd⟩
  dsimp only at hp hd ⊢
  have hpb := hp.pb (by omega)
  have hl := hp.len
  refine ok.eq (putI hN hpb (by omega)) ?_
  refine ok.eq (putS hN hpb (by omega)) ?_
  have hql := (put_sm p d).len
  refine ok.eq (equalSlots_eq hN (by omega)) ?_
  refine ok.ift rfl (ok.ift rfl (ok.bt (by simp) ?_))
  rcases put_cases p d with h | ⟨hv, h1, h2⟩
  · rw [h]
    exact ok.bf rfl (ok.eq (equalSlots_eq hN (by simp)) (ok.ift rfl (ok.some rfl)))
  · rw [h2]
    refine ok.bt rfl ?_
    have hfa := freeAt_le p.slots
    refine ok.call (P := fun o => match o with | .inl _ => True | .inr v => v = true) (ok.each (freeAt p.slots) (fun i s => s = (i : Int)) _ ?_ ?_ N 0 0 (Nat.zero_le _) rfl (by omega)) ?_
    · rintro i _ hi rfl
      have hi' : i < p.slots.length := by omega
      unfold m_L_FnPutSlotFirst_b1
      refine ok.ift (show (i : Int) < (freeAt p.slots : Int) by omega) ?_
      refine ok.eq (ixI_nat hi') ?_
      refine ok.bt (freeAt_live hi hi') ?_
      refine ok.chk (by omega) (ok.some ?_)
      show _ = _
      omega
    · rintro _ rfl
      unfold m_L_FnPutSlotFirst_b1
      exact ok.iff (show ¬ (freeAt p.slots : Int) < (freeAt p.slots : Int) by omega) (ok.some trivial)
    · rintro (u | r) hr
      · show ok (m_L_FnPutSlotFirst_k1 N _ _) _
        unfold m_L_FnPutSlotFirst_k1
        refine ok.chk (by dsimp only; omega) (ok.some (decide_eq_true ?_))
        dsimp only
        rw [withS_len hfa]; omega
      · exact ok.some hr
end
end V
end Go.Proofs.Ytoljdhdfijnjiaa
