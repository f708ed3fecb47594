/- The helpers of the pairs' exact law, in plain words. No condition. -/
import Derived.Test.YtlpbgmahegoidaaPlMk
import Derived.Test.YtlpbgmahegoidaaQrXa
import Derived.Test.YtlpbgmahegoidaaPlQr
namespace Go.Proofs.Ytlpbgmahegoidaa
namespace V
set_option linter.unusedVariables false
set_option linter.unusedSimpArgs false
set_option maxRecDepth 100000
set_option maxHeartbeats 1000000
def toPair (x : L_Pair) : I_Pair := ⟨x.key, x.row⟩
noncomputable def mkPair (N : Nat) (x : I_Pair) (k : Int) : I_Pair := ⟨mT N (k), k + 1⟩
theorem len_L_markPairS (N : Nat) (a : List I_Pair) (k : Int) (r : Int × List I_Pair) (h : m_L_markPairS N a k = some r) : r.2.length = a.length := by
  unfold m_L_markPairS at h
  obtain ⟨o, h1, h2⟩ := bind_some h
  unfold m_L_markPairS_k1 at h2
  cases h2
  refine al.loop (fun s => s.2.2.length = a.length) (fun b => b.2.length = a.length) ?_ N _ rfl _ h1
  rintro ⟨k, i, v⟩ hv
  show al (m_L_markPairS_b1 N k i v) _
  unfold m_L_markPairS_b1
  repeat' (first | exact al.some hv | (refine al.cond (fun _ => ?_) (fun _ => ?_)) | (refine al.bind (fun _ _ => ?_)) | (refine al.some ?_; simpa only [List.length_set] using hv))
section
variable {N : Nat} (hN : 100000000 ≤ N)
include hN
theorem toPairS_eq {a : List L_Pair} (ha : a.length ≤ 4000000) : m_L_toPairS N a = some (a.map toPair) := by
  unfold m_L_toPairS
  have hm : mkM 24 (⟨ByteArray.empty, 0⟩ : I_Pair) (a.length : Int) = some (List.replicate a.length ⟨ByteArray.empty, 0⟩) := by unfold mkM; rw [if_pos (by omega)]; simp
  rw [hm]
  show (loopM _ N _).bind _ = _
  rw [to_loop a toPair (List.replicate a.length ⟨ByteArray.empty, 0⟩) (by simp) (by omega)]
  · rfl
  · intro i hi v hv
    unfold m_L_toPairS_b1 m_L_toPair
    rw [decide_eq_true (by show (i : Int) < _; omega), cond_true, ixI_nat hi, ixI_nat (show i < v.length by omega), chk_eq (by show _ ≤ (i : Int) + 1 ∧ _; omega)]
    rfl
  · intro v
    unfold m_L_toPairS_b1
    rw [decide_eq_false (by show ¬ (a.length : Int) < _; omega)]; rfl
omit hN in
theorem eqPair_self (a : I_Pair) : m_L_eqPair N a a = some true := by
  unfold m_L_eqPair
  simp
theorem eqPairS_self {a : List I_Pair} (ha : a.length ≤ 5000000) : m_L_eqPairS N a a = some true := by
  unfold m_L_eqPairS
  rw [decide_eq_true rfl, cond_true]
  have h := ok.up (body := fun s : Int => m_L_eqPairS_b1 N a a s) a.length (fun _ => True) (fun o => o = .inl ()) (N := N) (by omega) ?_ ?_
  · obtain ⟨o, e, rfl⟩ := h; rw [e]; rfl
  · intro i hi _
    show ok (m_L_eqPairS_b1 N a a i) _
    unfold m_L_eqPairS_b1
    refine ok.ift (by omega) (ok.eq (ixI_nat hi) (ok.eq (ixI_nat hi) (ok.eq (eqPair_self _) (ok.bt rfl (ok.chk (by omega) (ok.some ⟨rfl, trivial⟩))))))
  · intro _
    show ok (m_L_eqPairS_b1 N a a _) _
    unfold m_L_eqPairS_b1
    exact ok.iff (by omega) (ok.some rfl)
theorem markPairS_eq {a : List I_Pair} (ha : a.length ≤ 5000000) {k0 : Int} (h0 : 1 ≤ k0 ∧ k0 ≤ 10000000) : m_L_markPairS N a k0 = some (k0 + ((2 * a.length : Nat) : Int), mkL (mkPair N) (fun _ => 2) a k0) := by
  unfold m_L_markPairS
  have hc : ∀ xs : List I_Pair, cL (fun _ => 2) xs = 2 * xs.length := cL_const _ (fun _ => rfl)
  rw [mark_loop (mkPair N) (fun _ => 2) a k0 (by omega)]
  · rw [hc]; rfl
  · intro i hi v hv hx
    obtain ⟨hi', hx⟩ := List.getElem?_eq_some_iff.1 hx
    have hb : cL (fun _ => 2) (a.take i) = 2 * i := by rw [hc, List.length_take]; omega
    simp only [hb]
    have hx' : ixI v (i : Int) = some a[i] := by rw [ixI_nat hi', hx]
    show m_L_markPairS_b1 N (k0 + ((2 * i : Nat) : Int)) i v = _
    refine ok.val ?_
    unfold m_L_markPairS_b1
    repeat' (first | (with_reducible refine ok.some ?_) | (with_reducible refine ok.ift (by omega) ?_) | (with_reducible refine ok.eq hx' ?_) | (with_reducible refine ok.eq (mT_eq hN (by omega) (by omega)) ?_) | (with_reducible refine ok.ite (fun hc => ?_) (fun hc => ?_)) | (with_reducible refine ok.cond (fun hc => ?_) (fun hc => ?_)) | (with_reducible refine ok.chk (by omega) ?_) | (with_reducible refine ok.bs ?_) | (with_reducible refine ok.remM (by omega) (fun _ hq => ?_)) | (with_reducible refine ok.quoM (by omega) (fun _ hq => ?_)) | (with_reducible refine ok.ix (by omega) (by omega) (fun q hq he => ?_)))
    simp only [List.set_set, mkPair, Int.toNat_natCast, Int.add_assoc]
    rfl
  · intro k v hv
    unfold m_L_markPairS_b1
    rw [decide_eq_false (by show ¬ (a.length : Int) < (v.length : Int); omega)]; rfl
end
def mkInt (x : Int) (k : Int) : Int := k
theorem len_L_markIntS (N : Nat) (a : List Int) (k : Int) (r : Int × List Int) (h : m_L_markIntS N a k = some r) : r.2.length = a.length := by
  unfold m_L_markIntS at h
  obtain ⟨o, h1, h2⟩ := bind_some h
  unfold m_L_markIntS_k1 at h2
  cases h2
  refine al.loop (fun s => s.2.2.length = a.length) (fun b => b.2.length = a.length) ?_ N _ rfl _ h1
  rintro ⟨k, i, v⟩ hv
  show al (m_L_markIntS_b1 N k i v) _
  unfold m_L_markIntS_b1
  repeat' (first | exact al.some hv | (refine al.cond (fun _ => ?_) (fun _ => ?_)) | (refine al.bind (fun _ _ => ?_)) | (refine al.some ?_; simpa only [List.length_set] using hv))
section
variable {N : Nat} (hN : 100000000 ≤ N)
include hN
theorem eqIntS_self {a : List Int} (ha : a.length ≤ 5000000) : m_L_eqIntS N a a = some true := by
  unfold m_L_eqIntS
  rw [decide_eq_true rfl, cond_true]
  have h := ok.up (body := fun s : Int => m_L_eqIntS_b1 N a a s) a.length (fun _ => True) (fun o => o = .inl ()) (N := N) (by omega) ?_ ?_
  · obtain ⟨o, e, rfl⟩ := h; rw [e]; rfl
  · intro i hi _
    show ok (m_L_eqIntS_b1 N a a i) _
    unfold m_L_eqIntS_b1
    refine ok.ift (by omega) (ok.eq (ixI_nat hi) (ok.eq (ixI_nat hi) (ok.ift rfl (ok.chk (by omega) (ok.some ⟨rfl, trivial⟩)))))
  · intro _
    show ok (m_L_eqIntS_b1 N a a _) _
    unfold m_L_eqIntS_b1
    exact ok.iff (by omega) (ok.some rfl)
theorem markIntS_eq {a : List Int} (ha : a.length ≤ 5000000) {k0 : Int} (h0 : 1 ≤ k0 ∧ k0 ≤ 10000000) : m_L_markIntS N a k0 = some (k0 + ((1 * a.length : Nat) : Int), mkL mkInt (fun _ => 1) a k0) := by
  unfold m_L_markIntS
  have hc : ∀ xs : List Int, cL (fun _ => 1) xs = 1 * xs.length := cL_const _ (fun _ => rfl)
  rw [mark_loop mkInt (fun _ => 1) a k0 (by omega)]
  · rw [hc]; rfl
  · intro i hi v hv hx
    obtain ⟨hi', hx⟩ := List.getElem?_eq_some_iff.1 hx
    have hb : cL (fun _ => 1) (a.take i) = 1 * i := by rw [hc, List.length_take]; omega
    simp only [hb]
    have hx' : ixI v (i : Int) = some a[i] := by rw [ixI_nat hi', hx]
    show m_L_markIntS_b1 N (k0 + ((1 * i : Nat) : Int)) i v = _
    refine ok.val ?_
    unfold m_L_markIntS_b1
    repeat' (first | (with_reducible refine ok.some ?_) | (with_reducible refine ok.ift (by omega) ?_) | (with_reducible refine ok.eq hx' ?_) | (with_reducible refine ok.ite (fun hc => ?_) (fun hc => ?_)) | (with_reducible refine ok.cond (fun hc => ?_) (fun hc => ?_)) | (with_reducible refine ok.chk (by omega) ?_) | (with_reducible refine ok.bs ?_) | (with_reducible refine ok.remM (by omega) (fun _ hq => ?_)) | (with_reducible refine ok.quoM (by omega) (fun _ hq => ?_)) | (with_reducible refine ok.ix (by omega) (by omega) (fun q hq he => ?_)))
    simp only [List.set_set, mkInt, Int.toNat_natCast, Int.add_assoc]
    rfl
  · intro k v hv
    unfold m_L_markIntS_b1
    rw [decide_eq_false (by show ¬ (a.length : Int) < (v.length : Int); omega)]; rfl
theorem heldIntS_eq {a : List Int} (ha : a.length ≤ 5000000) {k0 : Int} (h0 : 1 ≤ k0 ∧ k0 ≤ 10000000) : m_L_heldIntS N (mkL mkInt (fun _ => 1) a k0) k0 = some (k0 + ((1 * a.length : Nat) : Int)) := by
  unfold m_L_heldIntS
  have hc : ∀ xs : List Int, cL (fun _ => 1) xs = 1 * xs.length := cL_const _ (fun _ => rfl)
  rw [held_loop mkInt (fun _ => 1) a k0 (by omega)]
  · rw [hc]; rfl
  · intro i hi hx
    obtain ⟨hi', hx⟩ := List.getElem?_eq_some_iff.1 hx
    have hb : cL (fun _ => 1) (a.take i) = 1 * i := by rw [hc, List.length_take]; omega
    rw [hb] at hx
    simp only [hb]
    have hx' : ixI (mkL mkInt (fun _ => 1) a k0) (i : Int) = some (mkInt a[i] (k0 + ((1 * i : Nat) : Int))) := by rw [ixI_nat hi', hx]
    have hl := mkL_len mkInt (fun _ => 1) a k0
    show m_L_heldIntS_b1 N (mkL mkInt (fun _ => 1) a k0) (k0 + ((1 * i : Nat) : Int)) i = _
    refine ok.val ?_
    unfold m_L_heldIntS_b1
    simp only [mkInt] at hx'
    repeat' (first | (with_reducible refine ok.some ?_) | (with_reducible refine ok.ift rfl ?_) | (with_reducible refine ok.ift (by omega) ?_) | (with_reducible refine ok.eq hx' ?_) | (with_reducible refine ok.ite (fun hc => ?_) (fun hc => ?_)) | (with_reducible refine ok.cond (fun hc => ?_) (fun hc => ?_)) | (with_reducible refine ok.chk (by omega) ?_) | (with_reducible refine ok.bs ?_) | (with_reducible refine ok.remM (by omega) (fun _ hq => ?_)) | (with_reducible refine ok.quoM (by omega) (fun _ hq => ?_)) | (with_reducible refine ok.ix (by omega) (by omega) (fun q hq he => ?_)))
    simp only [Int.add_assoc]; rfl
  · intro k
    unfold m_L_heldIntS_b1
    have hl := mkL_len mkInt (fun _ => 1) a k0
    rw [decide_eq_false (by show ¬ (a.length : Int) < _; omega)]; rfl
end
theorem szPairS_ok {N : Nat} (hN : 100000000 ≤ N) {a : List L_Pair} (ha : a.length ≤ 9223372036854775807) (hd : ∀ s ∈ a, s.key.size ≤ 9223372036854775807) : ok (m_L_szPairS N a 1048576) fun r => r < 0 ∨ (0 ≤ r ∧ r ≤ 1048576 ∧ a.length ≤ 1048576) := by
  unfold m_L_szPairS
  refine ok.chk (by omega) ?_
  refine ok.ite (fun _ => ok.some (.inl (by omega))) fun hc => ?_
  have hl : a.length ≤ 1048576 := by omega
  refine ok.call (P := fun o => match o with | .inl r => 0 ≤ r ∧ r ≤ 1048576 | .inr r => r < 0) (ok.each a.length (fun i s => s.2 = (i : Int) ∧ 0 ≤ s.1 ∧ s.1 ≤ 1048576) _ ?_ ?_ N 0 _ (Nat.zero_le _) ⟨rfl, by dsimp only; omega, by dsimp only; omega⟩ (by omega)) ?_
  · rintro i ⟨lft, j⟩ hi ⟨rfl, h1, h2⟩
    dsimp only at h1 h2 ⊢
    have hs := hd _ (List.getElem_mem hi)
    unfold m_L_szPairS_b1 m_L_szPair
    refine ok.ift (by omega) (ok.eq (ixI_nat hi) ?_)
    refine ok.call (P := fun r => r < 0 ∨ (0 ≤ r ∧ r ≤ 1048576)) ?_ fun r hr => ?_
    · exact ok.chk (by omega) (ok.ite (fun _ => ok.some (.inl (by omega))) fun _ => ok.some (.inr (by omega)))
    · exact ok.ite (fun _ => ok.some (by omega)) fun _ => ok.chk (by omega) (ok.some ⟨rfl, by dsimp only; omega, by dsimp only; omega⟩)
  · rintro ⟨lft, j⟩ ⟨rfl, h1, h2⟩
    dsimp only at h1 h2 ⊢
    unfold m_L_szPairS_b1
    exact ok.iff (by omega) (ok.some ⟨h1, h2⟩)
  · rintro (r | r) hr
    · exact ok.some (.inr ⟨hr.1, hr.2, hl⟩)
    · exact ok.some (.inl hr)
theorem szValue_ok (N : Nat) {a : L_Value} (hd : a.text.size ≤ 9223372036854775807) {l : Int} (h : 0 ≤ l ∧ l ≤ 1048576) : ok (m_L_szValue N a l) fun r => r < 0 ∨ (0 ≤ r ∧ r ≤ 1048576 ∧ a.text.size ≤ 1048576) := by
  unfold m_L_szValue
  exact ok.chk (by omega) (ok.ite (fun _ => ok.some (.inl (by omega))) fun _ => ok.some (.inr (by omega)))
end V
end Go.Proofs.Ytlpbgmahegoidaa
