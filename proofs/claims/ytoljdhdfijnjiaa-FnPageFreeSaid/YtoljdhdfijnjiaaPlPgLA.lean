/- The law that records take room answers true. No condition. -/
import Derived.Test.YtoljdhdfijnjiaaPlPgF
import Derived.Test.YtoljdhdfijnjiaaPgLAa
namespace Go.Proofs.Ytoljdhdfijnjiaa
namespace V
set_option linter.unusedVariables false
set_option linter.unusedSimpArgs false
section
variable {N : Nat} (hN : 100000000 ≤ N)
include hN
theorem pageFreeLaw (l : List UInt8) (sl : Szd.szd l) : m_L_FnPageFree N l = some true := by
  refine ok.val ?_
  unfold m_L_FnPageFree
  refine ok.ite (fun _ => ok.some rfl) fun _ => ?_
  refine ok.call (drawPageFree_ok hN l) fun p hp => ?_
  have hpb := hp.pb (by omega)
  refine ok.eq (freeI hN hpb) ?_
  refine ok.eq (freeS hN hpb) ?_
  refine ok.ift rfl ?_
  refine ok.ite (fun _ => ok.eq (freeS hN hpb) (ok.some (by simp))) fun hc => ?_
  refine ok.eq (putI hN hpb (by decide)) ?_
  have hv : vP p := by
    by_cases h : vP p
    · exact h
    · unfold freeP at hc; rw [if_neg h] at hc; omega
  have hfp : freeP p = 100 - usedP p.slots := if_pos hv
  have hu := usedP_nonneg p.slots
  have hle := hv.2.2.2
  have h8 := hv.1
  have hfa := freeAt_le p.slots
  rcases put_cases p (ByteArray.mk #[102, 105, 118, 101, 33]) with h | ⟨_, h1, h2⟩
  · rw [h]
    refine ok.ite (fun h' => ?_) fun _ => ?_
    · dsimp only at h'; omega
    · exact ok.bf rfl (ok.some rfl)
  · rw [h2]
    have hw := usedP_with hv ⟨true, ByteArray.mk #[102, 105, 118, 101, 33]⟩
    have h5 : ((⟨true, ByteArray.mk #[102, 105, 118, 101, 33]⟩ : I_Slot).data.size : Int) = 5 := rfl
    rw [h5] at hw
    have hfq : freeP ⟨withS p.slots (freeAt p.slots) ⟨true, ByteArray.mk #[102, 105, 118, 101, 33]⟩⟩ = 100 - usedP (withS p.slots (freeAt p.slots) ⟨true, ByteArray.mk #[102, 105, 118, 101, 33]⟩) := if_pos h1
    have hqb := h1.sm.pb (by omega)
    refine ok.ite (fun h' => ?_) fun h' => ?_
    · dsimp only at h' ⊢
      refine ok.chk (by omega) ?_
      refine ok.bt rfl ?_
      refine ok.eq (freeI hN hqb) ?_
      refine ok.chk (by omega) ?_
      refine ok.some (decide_eq_true ?_)
      rw [if_neg (by omega)] at hw
      omega
    · dsimp only at h' ⊢
      refine ok.bt rfl ?_
      refine ok.eq (freeI hN hqb) ?_
      refine ok.chk (by omega) ?_
      refine ok.some (decide_eq_true ?_)
      rw [if_pos (by omega)] at hw
      omega
end
end V
end Go.Proofs.Ytoljdhdfijnjiaa
