/- The law that what is put can be cleared answers true. No condition. -/
import Derived.Test.YtoljdhdfijnjiaaPlPgF
import Derived.Test.YtoljdhdfijnjiaaPgLFa
namespace Go.Proofs.Ytoljdhdfijnjiaa
namespace V
set_option linter.unusedVariables false
set_option linter.unusedSimpArgs false
section
variable {N : Nat} (hN : 100000000 ≤ N)
include hN
theorem putSlotBackLaw (l : List UInt8) (sl : Szd.szd l) : m_L_FnPutSlotBack N l = some true := by
  refine ok.val ?_
  unfold m_L_FnPutSlotBack
  refine ok.ite (fun _ => ok.some rfl) fun _ => ?_
  refine ok.call (drawPutSlot_ok hN l) ?_
  rintro ⟨p, d⟩ ⟨hp, hd⟩
  dsimp only at hp hd ⊢
  have hpb := hp.pb (by omega)
  have hl := hp.len
  refine ok.eq (putI hN hpb (by omega)) ?_
  refine ok.eq (putS hN hpb (by omega)) ?_
  have hql := (put_sm p d).len
  refine ok.eq (equalSlots_eq hN (by omega)) ?_
  refine ok.ift rfl (ok.ift rfl (ok.bt (by simp) ?_))
  rcases put_cases p d with h | ⟨hv, h1, h2⟩
  · rw [h]
    exact ok.bf rfl (ok.eq (equalSlots_eq hN (by simp)) (ok.ift rfl (ok.some rfl)))
  · rw [h2] at hql ⊢
    refine ok.bt rfl ?_
    have hfa := freeAt_le p.slots
    have hqb := h1.sm.pb (by omega)
    have hk : lvP ⟨withS p.slots (freeAt p.slots) ⟨true, d⟩⟩ (freeAt p.slots : Int) := (lvP_nat h1 _).2 ⟨_, withS_self hfa, rfl⟩
    have hc : clearP ⟨withS p.slots (freeAt p.slots) ⟨true, d⟩⟩ (freeAt p.slots : Int) = (p, true) := by
      unfold clearP; rw [if_pos hk]
      simp only [Int.toNat_natCast, clear_back hv]
    refine ok.eq (clearI hN hqb) ?_
    rw [hc]
    refine ok.bt rfl (ok.eq (equalSlots_eq hN (by dsimp only; omega)) (ok.some (decide_eq_true rfl)))
end
end V
end Go.Proofs.Ytoljdhdfijnjiaa
