/- The law that records can be replaced answers true. No condition. -/
import Derived.Test.YtoljdhdfijnjiaaPlPgF
import Derived.Test.YtoljdhdfijnjiaaPgLDa
namespace Go.Proofs.Ytoljdhdfijnjiaa
namespace V
set_option linter.unusedVariables false
set_option linter.unusedSimpArgs false
section
variable {N : Nat} (hN : 100000000 ≤ N)
include hN
theorem setSlotLaw (l : List UInt8) (sl : Szd.szd l) : m_L_FnSetSlot N l = some true := by
  refine ok.val ?_
  unfold m_L_FnSetSlot
  refine ok.ite (fun _ => ok.some rfl) fun _ => ?_
  refine ok.call (drawSetSlot_ok hN l) ?_
  rintro ⟨p, k, d⟩ ⟨hp, hd⟩
  dsimp only at hp hd ⊢
  have hpb := hp.pb (by omega)
  have hl := hp.len
  refine ok.eq (setI hN hpb (by omega)) ?_
  refine ok.eq (setS hN hpb (by omega)) ?_
  have hql := (set_sm p k d).len
  refine ok.eq (equalSlots_eq hN (by omega)) ?_
  refine ok.ift rfl (ok.bt (by simp) ?_)
  rcases set_cases p k d with h | ⟨hk, h1, h2⟩
  · rw [h]
    exact ok.bf rfl (ok.eq (equalSlots_eq hN (by simp)) (ok.ift rfl (ok.some rfl)))
  · rw [h2] at hql ⊢
    refine ok.bt rfl ?_
    have hqb := h1.sm.pb (by omega)
    have hlt := lvP_lt hk
    have hlt' : k.toNat < (p.slots.set k.toNat ⟨true, d⟩).length := by simpa using hlt
    obtain ⟨hv, h0, s, hs, hsl⟩ := hk
    have hk : lvP p k := ⟨hv, h0, s, hs, hsl⟩
    have hg1 : getP p k = (s.data, true) := by unfold getP; rw [if_pos hk, hs]; rfl
    have hq : lvP ⟨p.slots.set k.toNat ⟨true, d⟩⟩ k := ⟨h1, h0, ⟨true, d⟩, by dsimp only; rw [List.getElem?_set_self hlt], rfl⟩
    have hg2 : getP ⟨p.slots.set k.toNat ⟨true, d⟩⟩ k = (d, true) := by
      unfold getP; rw [if_pos hq]; dsimp only; rw [List.getElem?_set_self hlt]; rfl
    have hsz : s.data.size ≤ 100 := hp.dat s (List.mem_of_getElem? hs)
    have hback : (p.slots.set k.toNat ⟨true, d⟩).set k.toNat ⟨true, s.data⟩ = p.slots := by
      rw [List.set_set]
      apply List.ext_getElem (by simp)
      intro i g1 g2
      rw [List.getElem_set]; split
      · rename_i e; subst e
        rw [List.getElem?_eq_getElem hlt] at hs; cases hs
        cases hx : p.slots[k.toNat] with | mk a b => rw [hx] at hsl; simp at hsl; subst hsl; rfl
      · rfl
    have hs3 : setP ⟨p.slots.set k.toNat ⟨true, d⟩⟩ k s.data = (p, true) := by
      unfold setP; rw [if_pos hq]; dsimp only; rw [hback, if_pos hv]
    refine ok.eq (getI hN hpb) ?_
    refine ok.eq (getI hN hqb) ?_
    rw [hg1, hg2]
    refine ok.eq (setI hN hqb (by dsimp only; omega)) ?_
    rw [hs3]
    refine ok.bt rfl (ok.bt rfl (ok.bt (by simp) (ok.bt rfl (ok.eq (equalSlots_eq hN (by dsimp only; omega)) (ok.ift rfl (ok.some (decide_eq_true (by simp))))))))
end
end V
end Go.Proofs.Ytoljdhdfijnjiaa
