/- The law that held pages are not used at once answers true. No condition. -/
import Derived.Test.YtambkpacecjheaaPlSpG
import Derived.Test.YtambkpacecjheaaSpLFa
namespace Go.Proofs.Ytambkpacecjheaa
namespace V
set_option linter.unusedVariables false
set_option linter.unusedSimpArgs false
section
variable {N : Nat} (hN : 100000000 ≤ N)
include hN
theorem holdLaw (l : List UInt8) (sl : Szd.szd l) : m_L_FnHoldPage N l = some true := by
  refine ok.val ?_
  unfold m_L_FnHoldPage
  refine ok.ite (fun _ => ok.some rfl) fun _ => ?_
  refine ok.call (drawHold_ok hN l) ?_
  rintro ⟨s, p, t⟩ ⟨hs, hp1, hp2, ht1, ht2⟩
  dsimp only at hs hp1 hp2 ht1 ht2 ⊢
  have hF := hs.1
  have hH := hs.2
  have hr := hold_len s p t
  refine ok.eq (holdI hN (by omega) (by omega) _ _) (ok.eq (holdS hN (by omega) (by omega) _ _) (ok.eq (equalSpace_self hN (by omega) (by omega)) (ok.bt rfl (ok.bt (beq_self_eq_true _) ?_))))
  rcases hold_cases s p t with h | ⟨hv, h⟩
  · rw [h] at hr ⊢
    dsimp only at hr ⊢
    exact ok.bf rfl (ok.eq (equalSpace_self hN (by omega) (by omega)) (ok.bt rfl (ok.some rfl)))
  · rw [h] at hr ⊢
    dsimp only at hr ⊢
    obtain ⟨hvs, hu, h5, h6, h7⟩ := next_iff.1 hv
    have hpl := pagesP_len (nextS s p t)
    have hpl2 := pagesP_len s
    have hin : (⟨p, t⟩ : I_Hold) ∈ (nextS s p t).held := List.mem_append_right _ (.head _)
    have hnot : ¬ usd (nextS s p t) p := fun e => e.2.2.2 _ hin rfl
    have hr1 := rel_len (nextS s p t) (t + 1)
    have hr2 := rel_len (nextS s p t) t
    have m1 : p ∈ (relP (nextS s p t) (t + 1)).free := by
      unfold relP; rw [if_pos hv]
      exact (sortP_perm _).mem_iff.2 (List.mem_append_right _ (mem_out.2 ⟨_, hin, by dsimp only; omega, rfl⟩))
    have m2 : p ∉ (relP (nextS s p t) t).free := by
      unfold relP; rw [if_pos hv]
      intro e
      rcases List.mem_append.1 ((sortP_perm _).mem_iff.1 e) with e | e
      · exact hu.2.2.1 e
      · obtain ⟨y, hy, h8, h9⟩ := mem_out.1 e
        have := page_inj hv.to.nd hy hin h9
        subst this
        dsimp only at h8; omega
    refine ok.eq (takeI hN (by omega) (by omega)) (ok.eq (validI hN (by omega) (by omega)) (ok.ift hv (ok.eq (pagesI hN (by omega) (by omega)) (ok.eq (isInL hN (by omega) _) (ok.ift ((pagesP_mem hvs).2 hu) (ok.eq (pagesI hN (by omega) (by omega)) (ok.eq (isInL hN (by omega) _) (ok.iff (fun e => hnot ((pagesP_mem hv).1 e)) ?_))))))))
    have fin : ok ((chk (t + (1 : Int))).bind fun n30 => (m_I_ReleasePages N (nextS s p t) n30).bind fun r32 => (m_L_isIn N r32.free p).bind fun r34 => cond r34 ((m_I_ReleasePages N (nextS s p t) t).bind fun r37 => (m_L_isIn N r37.free p).bind fun r39 => some (!r39)) (some false)) (fun r => r = true) := by
      refine ok.chk (by omega) (ok.eq (relI hN (by omega) (by omega) _) (ok.eq (isInL hN (by omega) _) (ok.ift m1 (ok.eq (relI hN (by omega) (by omega) _) (ok.eq (isInL hN (by omega) _) (ok.some ?_))))))
      rw [decide_eq_false m2]; rfl
    rcases take_cases (nextS s p t) with h | ⟨_, t', p', h, _, _, _, _, _, h8⟩
    · rw [h]
      exact ok.bf rfl fin
    · rw [h]
      refine ok.bt rfl (ok.iff (fun e => ?_) fin)
      dsimp only at e
      rcases h8 with h8 | h8
      · exact hu.2.2.1 (e ▸ h8)
      · have := hu.2.1
        have e2 : (nextS s p t).pages = s.pages := rfl
        omega
end
end V
end Go.Proofs.Ytambkpacecjheaa
