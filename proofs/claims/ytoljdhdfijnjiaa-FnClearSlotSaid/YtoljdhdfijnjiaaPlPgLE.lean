/- The law that cleared slots are gone answers true. No condition. -/
import Derived.Test.YtoljdhdfijnjiaaPlPgF
import Derived.Test.YtoljdhdfijnjiaaPgLEa
namespace Go.Proofs.Ytoljdhdfijnjiaa
namespace V
set_option linter.unusedVariables false
set_option linter.unusedSimpArgs false
section
variable {N : Nat} (hN : 100000000 ≤ N)
include hN
theorem clearSlotLaw (l : List UInt8) (sl : Szd.szd l) : m_L_FnClearSlot N l = some true := by
  refine ok.val ?_
  unfold m_L_FnClearSlot
  refine ok.ite (fun _ => ok.some rfl) fun _ => ?_
  refine ok.call (drawClearSlot_ok hN l) ?_
  rintro ⟨p, k⟩ ⟨hp, hk1, hk2⟩
  dsimp only at hp hk1 hk2 ⊢
  have hpb := hp.pb (by omega)
  have hl := hp.len
  refine ok.eq (clearI hN hpb) ?_
  refine ok.eq (clearS hN hpb) ?_
  have hql := (clear_sm p k).len
  refine ok.eq (equalSlots_eq hN (by omega)) ?_
  refine ok.ift rfl (ok.bt (by simp) ?_)
  rcases clear_cases p k with h | ⟨hk, h2⟩
  · rw [h]
    exact ok.bf rfl (ok.eq (equalSlots_eq hN (by simp)) (ok.ift rfl (ok.some rfl)))
  · rw [h2] at hql ⊢
    refine ok.bt rfl ?_
    obtain ⟨h1, h3⟩ := vP_clear hk
    have hn := not_lv_clear hk
    have hqb := h1.sm.pb (by omega)
    refine ok.eq (getI hN hqb) ?_
    refine ok.eq (clearI hN hqb) ?_
    refine ok.eq (getI hN hpb) ?_
    have hg : getP ⟨trimP (p.slots.set k.toNat noSlot)⟩ k = (ByteArray.empty, false) := if_neg hn
    have hcl : clearP ⟨trimP (p.slots.set k.toNat noSlot)⟩ k = (⟨[]⟩, false) := if_neg hn
    have hgp : getP p k = (((p.slots[k.toNat]?).getD noSlot).data, true) := if_pos hk
    rw [hg, hcl, hgp]
    refine ok.bf rfl (ok.bf rfl (ok.bt rfl (ok.eq (validPI hN hqb) (ok.ift h1 ?_))))
    refine ok.eq (freeI hN hqb) (ok.eq (freeI hN hpb) ?_)
    have e1 : freeP ⟨trimP (p.slots.set k.toNat noSlot)⟩ = 100 - usedP (trimP (p.slots.set k.toNat noSlot)) := if_pos h1
    have e2 : freeP p = 100 - usedP p.slots := if_pos hk.1
    have hu := usedP_nonneg p.slots
    have hle := hk.1.2.2.2
    have hu2 := usedP_nonneg (trimP (p.slots.set k.toNat noSlot))
    rw [e1, e2]
    refine ok.chk (by dsimp only; omega) (ok.some (decide_eq_true (by dsimp only; omega)))
end
end V
end Go.Proofs.Ytoljdhdfijnjiaa
