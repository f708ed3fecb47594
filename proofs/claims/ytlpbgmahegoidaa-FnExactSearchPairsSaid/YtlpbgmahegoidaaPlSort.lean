/- The reference's sorting, as plain data: what it answers is in order, and has the same elements. No condition. -/
import Derived.Test.YtlpbgmahegoidaaPlB
import Derived.Test.YtlpbgmahegoidaaQra
import Derived.Test.YtlpbgmahegoidaaSrtP
namespace Go.Proofs.Ytlpbgmahegoidaa
namespace V
set_option linter.unusedVariables false
set_option linter.unusedSimpArgs false
set_option maxHeartbeats 1000000
/-- The first n elements are in order, but for the one at i, which is not greater than those behind it. -/
structure SrI (v : List Int) (n i : Nat) : Prop where
  hn : n ≤ v.length
  hi : i < n
  oth : ∀ a b (ha : a < v.length) (hb : b < v.length), a < b → b < n → a ≠ i → b ≠ i → v[a] ≤ v[b]
  beh : ∀ b (hb : b < v.length) (h : i < v.length), i < b → b < n → v[i] ≤ v[b]
/-- The first n elements are in order. -/
def Sr (v : List Int) (n : Nat) : Prop := ∀ a b (ha : a < v.length) (hb : b < v.length), a < b → b < n → v[a] ≤ v[b]
theorem SrI.done {v : List Int} {n i : Nat} (h : SrI v n i) (hc : i = 0 ∨ ∃ (h1 : i - 1 < v.length) (h2 : i < v.length), v[i - 1] ≤ v[i]) : Sr v n := by
  intro a b ha hb hab hbn
  by_cases h1 : b = i
  · subst h1
    rcases hc with rfl | ⟨h3, h4, h5⟩
    · omega
    · by_cases h6 : a = b - 1
      · subst h6; exact h5
      · exact Int.le_trans (h.oth a (b - 1) ha h3 (by omega) (by omega) (by omega) (by omega)) h5
  · by_cases h2 : a = i
    · subst h2; exact h.beh b hb ha hab hbn
    · exact h.oth a b ha hb hab hbn h2 h1
theorem SrI.step {v : List Int} {n i : Nat} (h : SrI v n (i + 1)) (h1 : i < v.length) (h2 : i + 1 < v.length) (hc : v[i + 1] < v[i]) : SrI ((v.set (i + 1) v[i]).set i v[i + 1]) n i := by
  have hl : ((v.set (i + 1) v[i]).set i v[i + 1]).length = v.length := by simp
  have hg : ∀ k (hk : k < v.length), ((v.set (i + 1) v[i]).set i v[i + 1])[k]'(by omega) = if k = i then v[i + 1] else if k = i + 1 then v[i] else v[k] := by
    intro k hk
    rw [List.getElem_set]
    by_cases h3 : k = i
    · subst h3; simp
    · rw [if_neg (fun e => h3 e.symm), if_neg h3, List.getElem_set]
      by_cases h4 : k = i + 1
      · subst h4; simp
      · rw [if_neg (fun e => h4 e.symm), if_neg h4]
  refine ⟨by have := h.hn; omega, by have := h.hi; omega, fun a b ha hb hab hbn hai hbi => ?_, fun b hb hi hib hbn => ?_⟩
  · rw [hl] at ha hb
    rw [hg a ha, hg b hb, if_neg hai, if_neg hbi]
    by_cases h3 : a = i + 1
    · subst h3
      rw [if_pos rfl, if_neg (by omega)]
      exact h.oth i b h1 hb (by omega) hbn (by omega) (by omega)
    · rw [if_neg h3]
      by_cases h4 : b = i + 1
      · rw [if_pos h4]
        exact h.oth a i ha h1 (by omega) (by omega) (by omega) (by omega)
      · rw [if_neg h4]
        exact h.oth a b ha hb hab hbn h3 h4
  · rw [hl] at hb
    rw [hg b hb, hg i h1, if_pos rfl, if_neg (by omega)]
    by_cases h4 : b = i + 1
    · rw [if_pos h4]; omega
    · rw [if_neg h4]; exact h.beh b hb h2 (by omega) hbn
theorem Sr.all {v : List Int} (h : Sr v v.length) : v.Pairwise (· ≤ ·) := by
  rw [List.pairwise_iff_getElem]
  exact fun i j hi hj hij => h i j hi hj hij hj
section
variable {N : Nat} (hN : 100000000 ≤ N)
include hN
theorem sortedS {l : List Int} (hl : l.length ≤ 5000000) : m_S_sorted N l = some (sortP l) := by
  refine ok.val ?_
  unfold m_S_sorted
  have hcp : m_S_copyInts N l = some l := by
    unfold m_S_copyInts
    rw [appM_eq ⟨by simp; omega, by simp; omega⟩]; rfl
  refine ok.eq hcp ?_
  refine ok.call (P := fun v => v.Perm l ∧ v.Pairwise (· ≤ ·)) (ok.each (l.length - 1) (fun k st => st.1 = (k : Int) + 1 ∧ st.2.Perm l ∧ Sr st.2 (k + 1)) _ ?_ ?_ N 0 _ (Nat.zero_le _) ⟨rfl, .refl _, fun a b _ _ h1 h2 => by omega⟩ (by omega)) fun v hv => ?_
  · rintro k ⟨_, v⟩ hk ⟨rfl, hp, hs⟩
    have hvl := hp.length_eq
    dsimp only at hp hs hvl ⊢
    unfold m_S_sorted_b2
    refine ok.ift (by omega) ?_
    refine ok.call (P := fun w => w.Perm l ∧ Sr w (k + 2)) (ok.loop (fun st => ∃ i : Nat, st.1 = (i : Int) ∧ st.2.Perm l ∧ SrI st.2 (k + 2) i) (fun st => st.1.toNat) _ ?_ N _ ⟨k + 1, by simp, hp, by dsimp only; omega, by omega, fun a b ha hb hab hbn h1 h2 => hs a b ha hb hab (by omega), fun b hb h h1 h2 => by omega⟩ (by dsimp only; omega)) fun w hw => ?_
    · rintro ⟨_, w⟩ ⟨i, rfl, hp, hs⟩
      have hwl := hp.length_eq
      have hn := hs.hn
      have hi := hs.hi
      dsimp only at hp hs hn hwl ⊢
      unfold m_S_sorted_b3
      refine ok.ite (fun h0 => ?_) fun h0 => ok.some ⟨hp, hs.done (.inl (by omega))⟩
      obtain ⟨i, rfl⟩ : ∃ j, i = j + 1 := ⟨i - 1, by omega⟩
      refine ok.eq (ixI_nat (show i + 1 < w.length by omega)) (ok.chk (by omega) (ok.eq (ixI_eq (n := i) (by omega) (by omega)) ?_))
      refine ok.ite (fun hc => ?_) fun hc => ok.some ⟨hp, hs.done (.inr ⟨by omega, by omega, by show w[i] ≤ _; omega⟩)⟩
      refine ok.chk (by omega) (ok.eq (ixI_eq (n := i) (by omega) (by omega)) (ok.chk (by omega) ?_))
      refine ok.eq (ixI_eq (n := i) (by omega) (by simp; omega)) (ok.chk (by omega) (ok.some ⟨⟨i, by simp, ?_, ?_⟩, by dsimp only; omega⟩))
      · have e1 : ((i + 1 : Nat) : Int).toNat = i + 1 := by omega
        have e2 : (((i + 1 : Nat) : Int) - 1).toNat = i := by omega
        dsimp only
        rw [e1, e2]
        exact (List.set_set_perm (by omega) (by omega)).trans hp
      · have e1 : ((i + 1 : Nat) : Int).toNat = i + 1 := by omega
        have e2 : (((i + 1 : Nat) : Int) - 1).toNat = i := by omega
        dsimp only
        rw [e1, e2]
        exact hs.step (by omega) (by omega) hc
    · unfold m_S_sorted_k3
      exact ok.chk (by omega) (ok.some ⟨by simp, hw⟩)
  · rintro ⟨_, v⟩ ⟨rfl, hp, hs⟩
    have hvl := hp.length_eq
    dsimp only at hp hs hvl ⊢
    unfold m_S_sorted_b2
    refine ok.iff (by omega) (ok.some ⟨hp, Sr.all fun a b ha hb hab _ => hs a b ha hb hab (by omega)⟩)
  · unfold m_S_sorted_k2
    exact ok.some (sortP_of hv.1 hv.2)
end
end V
end Go.Proofs.Ytlpbgmahegoidaa
