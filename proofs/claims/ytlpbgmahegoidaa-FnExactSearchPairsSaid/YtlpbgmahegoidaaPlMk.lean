/- The texts that mark. No condition. -/
import Derived.Test.YtlpbgmahegoidaaPlB
import Derived.Test.YtlpbgmahegoidaaPlX
import Derived.Test.YtlpbgmahegoidaaMkta
namespace Go.Proofs.Ytlpbgmahegoidaa
namespace V
set_option linter.unusedVariables false
set_option linter.unusedSimpArgs false
noncomputable def mT (N : Nat) (k : Int) : ByteArray := (m_L_markText N k).getD ByteArray.empty
theorem b2s_one (c : UInt8) : (b2s [c]).size = 1 := rfl
theorem mT_eq {N : Nat} {k : Int} (hN : 100000000 ≤ N) (h0 : 0 ≤ k) (hk : k ≤ 50000000) : m_L_markText N k = some (mT N k) := by
  have h : ok (m_L_markText N k) fun _ => True := by
    unfold m_L_markText
    refine ok.ite (fun _ => ok.some trivial) fun hc => ?_
    refine ok.call (ok.loop (fun s => 0 ≤ s.1 ∧ s.1 ≤ k ∧ (s.2.size : Int) ≤ k - s.1) (fun s => s.1.toNat) (fun e => (e.size : Int) ≤ k) ?_ N _ ⟨by dsimp only; omega, by dsimp only; omega, by dsimp only; show (0 : Int) ≤ _; omega⟩ (by dsimp only; omega)) ?_
    · rintro ⟨j, s⟩ ⟨h1, h2, h3⟩
      dsimp only at h1 h2 h3 ⊢
      unfold m_L_markText_b1
      refine ok.ite (fun hc => ?_) fun hc => ok.some (by dsimp only; omega)
      refine ok.remM (by omega) fun x hx => ok.chk (by omega) ?_
      have hs : (b2s [i2b (48 + x)]).size + s.size ≤ 9223372036854775807 := by rw [b2s_one]; omega
      refine ok.eq (addS_eq hs) (ok.quoM (by omega) fun y hy => ok.some ?_)
      have hsz : ((b2s [i2b (48 + x)] ++ s).size : Int) = 1 + s.size := by rw [ByteArray.size_append, b2s_one]; omega
      have hlt : y < j := by rw [hy.1]; omega
      exact ⟨⟨by dsimp only; omega, by dsimp only; omega, by dsimp only; rw [hsz]; omega⟩, by dsimp only; omega⟩
    · intro e he
      unfold m_L_markText_k1
      have hs : (ByteArray.mk #[109]).size + e.size ≤ 9223372036854775807 := by
        have : (ByteArray.mk #[109]).size = 1 := rfl
        omega
      exact ok.eq (addS_eq hs) (ok.some trivial)
  obtain ⟨r, e, _⟩ := h
  unfold mT; rw [e]; rfl
end V
end Go.Proofs.Ytlpbgmahegoidaa
