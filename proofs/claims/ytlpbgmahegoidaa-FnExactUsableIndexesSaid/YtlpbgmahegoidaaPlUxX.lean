/- The helpers of the catalogs' exact law, in plain words. No condition. -/
import Derived.Test.YtlpbgmahegoidaaPlMk
import Derived.Test.YtlpbgmahegoidaaUxXa
import Derived.Test.YtlpbgmahegoidaaPlUx
namespace Go.Proofs.Ytlpbgmahegoidaa
namespace V
set_option linter.unusedVariables false
set_option linter.unusedSimpArgs false
set_option maxRecDepth 100000
set_option maxHeartbeats 1000000
def toEntry (x : L_Entry) : I_Entry := ⟨x.name, x.table, x.state⟩
noncomputable def mkEntry (N : Nat) (x : I_Entry) (k : Int) : I_Entry := ⟨mT N (k), mT N (k + 1), k + 1 + 1⟩
theorem len_L_markEntryS (N : Nat) (a : List I_Entry) (k : Int) (r : Int × List I_Entry) (h : m_L_markEntryS N a k = some r) : r.2.length = a.length := by
  unfold m_L_markEntryS at h
  obtain ⟨o, h1, h2⟩ := bind_some h
  unfold m_L_markEntryS_k1 at h2
  cases h2
  refine al.loop (fun s => s.2.2.length = a.length) (fun b => b.2.length = a.length) ?_ N _ rfl _ h1
  rintro ⟨k, i, v⟩ hv
  show al (m_L_markEntryS_b1 N k i v) _
  unfold m_L_markEntryS_b1
  repeat' (first | exact al.some hv | (refine al.cond (fun _ => ?_) (fun _ => ?_)) | (refine al.bind (fun _ _ => ?_)) | (refine al.some ?_; simpa only [List.length_set] using hv))
section
variable {N : Nat} (hN : 100000000 ≤ N)
include hN
theorem toEntryS_eq {a : List L_Entry} (ha : a.length ≤ 4000000) : m_L_toEntryS N a = some (a.map toEntry) := by
  unfold m_L_toEntryS
  have hm : mkM 40 (⟨ByteArray.empty, ByteArray.empty, 0⟩ : I_Entry) (a.length : Int) = some (List.replicate a.length ⟨ByteArray.empty, ByteArray.empty, 0⟩) := by unfold mkM; rw [if_pos (by omega)]; simp
  rw [hm]
  show (loopM _ N _).bind _ = _
  rw [to_loop a toEntry (List.replicate a.length ⟨ByteArray.empty, ByteArray.empty, 0⟩) (by simp) (by omega)]
  · rfl
  · intro i hi v hv
    unfold m_L_toEntryS_b1 m_L_toEntry
    rw [decide_eq_true (by show (i : Int) < _; omega), cond_true, ixI_nat hi, ixI_nat (show i < v.length by omega), chk_eq (by show _ ≤ (i : Int) + 1 ∧ _; omega)]
    rfl
  · intro v
    unfold m_L_toEntryS_b1
    rw [decide_eq_false (by show ¬ (a.length : Int) < _; omega)]; rfl
omit hN in
theorem eqEntry_self (a : I_Entry) : m_L_eqEntry N a a = some true := by
  unfold m_L_eqEntry
  simp
theorem eqEntryS_self {a : List I_Entry} (ha : a.length ≤ 5000000) : m_L_eqEntryS N a a = some true := by
  unfold m_L_eqEntryS
  rw [decide_eq_true rfl, cond_true]
  have h := ok.up (body := fun s : Int => m_L_eqEntryS_b1 N a a s) a.length (fun _ => True) (fun o => o = .inl ()) (N := N) (by omega) ?_ ?_
  · obtain ⟨o, e, rfl⟩ := h; rw [e]; rfl
  · intro i hi _
    show ok (m_L_eqEntryS_b1 N a a i) _
    unfold m_L_eqEntryS_b1
    refine ok.ift (by omega) (ok.eq (ixI_nat hi) (ok.eq (ixI_nat hi) (ok.eq (eqEntry_self _) (ok.bt rfl (ok.chk (by omega) (ok.some ⟨rfl, trivial⟩))))))
  · intro _
    show ok (m_L_eqEntryS_b1 N a a _) _
    unfold m_L_eqEntryS_b1
    exact ok.iff (by omega) (ok.some rfl)
theorem markEntryS_eq {a : List I_Entry} (ha : a.length ≤ 5000000) {k0 : Int} (h0 : 1 ≤ k0 ∧ k0 ≤ 10000000) : m_L_markEntryS N a k0 = some (k0 + ((3 * a.length : Nat) : Int), mkL (mkEntry N) (fun _ => 3) a k0) := by
  unfold m_L_markEntryS
  have hc : ∀ xs : List I_Entry, cL (fun _ => 3) xs = 3 * xs.length := cL_const _ (fun _ => rfl)
  rw [mark_loop (mkEntry N) (fun _ => 3) a k0 (by omega)]
  · rw [hc]; rfl
  · intro i hi v hv hx
    obtain ⟨hi', hx⟩ := List.getElem?_eq_some_iff.1 hx
    have hb : cL (fun _ => 3) (a.take i) = 3 * i := by rw [hc, List.length_take]; omega
    simp only [hb]
    have hx' : ixI v (i : Int) = some a[i] := by rw [ixI_nat hi', hx]
    show m_L_markEntryS_b1 N (k0 + ((3 * i : Nat) : Int)) i v = _
    refine ok.val ?_
    unfold m_L_markEntryS_b1
    repeat' (first | (with_reducible refine ok.some ?_) | (with_reducible refine ok.ift (by omega) ?_) | (with_reducible refine ok.eq hx' ?_) | (with_reducible refine ok.eq (mT_eq hN (by omega) (by omega)) ?_) | (with_reducible refine ok.ite (fun hc => ?_) (fun hc => ?_)) | (with_reducible refine ok.cond (fun hc => ?_) (fun hc => ?_)) | (with_reducible refine ok.chk (by omega) ?_) | (with_reducible refine ok.bs ?_) | (with_reducible refine ok.remM (by omega) (fun _ hq => ?_)) | (with_reducible refine ok.quoM (by omega) (fun _ hq => ?_)) | (with_reducible refine ok.ix (by omega) (by omega) (fun q hq he => ?_)))
    simp only [List.set_set, mkEntry, Int.toNat_natCast, Int.add_assoc]
    rfl
  · intro k v hv
    unfold m_L_markEntryS_b1
    rw [decide_eq_false (by show ¬ (a.length : Int) < (v.length : Int); omega)]; rfl
end
noncomputable def mkString (N : Nat) (x : ByteArray) (k : Int) : ByteArray := mT N k
theorem len_L_markStringS (N : Nat) (a : List ByteArray) (k : Int) (r : Int × List ByteArray) (h : m_L_markStringS N a k = some r) : r.2.length = a.length := by
  unfold m_L_markStringS at h
  obtain ⟨o, h1, h2⟩ := bind_some h
  unfold m_L_markStringS_k1 at h2
  cases h2
  refine al.loop (fun s => s.2.2.length = a.length) (fun b => b.2.length = a.length) ?_ N _ rfl _ h1
  rintro ⟨k, i, v⟩ hv
  show al (m_L_markStringS_b1 N k i v) _
  unfold m_L_markStringS_b1
  repeat' (first | exact al.some hv | (refine al.cond (fun _ => ?_) (fun _ => ?_)) | (refine al.bind (fun _ _ => ?_)) | (refine al.some ?_; simpa only [List.length_set] using hv))
section
variable {N : Nat} (hN : 100000000 ≤ N)
include hN
theorem eqStringS_self {a : List ByteArray} (ha : a.length ≤ 5000000) : m_L_eqStringS N a a = some true := by
  unfold m_L_eqStringS
  rw [decide_eq_true rfl, cond_true]
  have h := ok.up (body := fun s : Int => m_L_eqStringS_b1 N a a s) a.length (fun _ => True) (fun o => o = .inl ()) (N := N) (by omega) ?_ ?_
  · obtain ⟨o, e, rfl⟩ := h; rw [e]; rfl
  · intro i hi _
    show ok (m_L_eqStringS_b1 N a a i) _
    unfold m_L_eqStringS_b1
    refine ok.ift (by omega) (ok.eq (ixI_nat hi) (ok.eq (ixI_nat hi) (ok.bt (beq_self_eq_true _) (ok.chk (by omega) (ok.some ⟨rfl, trivial⟩)))))
  · intro _
    show ok (m_L_eqStringS_b1 N a a _) _
    unfold m_L_eqStringS_b1
    exact ok.iff (by omega) (ok.some rfl)
theorem markStringS_eq {a : List ByteArray} (ha : a.length ≤ 5000000) {k0 : Int} (h0 : 1 ≤ k0 ∧ k0 ≤ 10000000) : m_L_markStringS N a k0 = some (k0 + ((1 * a.length : Nat) : Int), mkL (mkString N) (fun _ => 1) a k0) := by
  unfold m_L_markStringS
  have hc : ∀ xs : List ByteArray, cL (fun _ => 1) xs = 1 * xs.length := cL_const _ (fun _ => rfl)
  rw [mark_loop (mkString N) (fun _ => 1) a k0 (by omega)]
  · rw [hc]; rfl
  · intro i hi v hv hx
    obtain ⟨hi', hx⟩ := List.getElem?_eq_some_iff.1 hx
    have hb : cL (fun _ => 1) (a.take i) = 1 * i := by rw [hc, List.length_take]; omega
    simp only [hb]
    have hx' : ixI v (i : Int) = some a[i] := by rw [ixI_nat hi', hx]
    show m_L_markStringS_b1 N (k0 + ((1 * i : Nat) : Int)) i v = _
    refine ok.val ?_
    unfold m_L_markStringS_b1
    repeat' (first | (with_reducible refine ok.some ?_) | (with_reducible refine ok.ift (by omega) ?_) | (with_reducible refine ok.eq hx' ?_) | (with_reducible refine ok.eq (mT_eq hN (by omega) (by omega)) ?_) | (with_reducible refine ok.ite (fun hc => ?_) (fun hc => ?_)) | (with_reducible refine ok.cond (fun hc => ?_) (fun hc => ?_)) | (with_reducible refine ok.chk (by omega) ?_) | (with_reducible refine ok.bs ?_) | (with_reducible refine ok.remM (by omega) (fun _ hq => ?_)) | (with_reducible refine ok.quoM (by omega) (fun _ hq => ?_)) | (with_reducible refine ok.ix (by omega) (by omega) (fun q hq he => ?_)))
    simp only [List.set_set, mkString, Int.toNat_natCast, Int.add_assoc]
    rfl
  · intro k v hv
    unfold m_L_markStringS_b1
    rw [decide_eq_false (by show ¬ (a.length : Int) < (v.length : Int); omega)]; rfl
theorem heldStringS_eq {a : List ByteArray} (ha : a.length ≤ 5000000) {k0 : Int} (h0 : 1 ≤ k0 ∧ k0 ≤ 10000000) : m_L_heldStringS N (mkL (mkString N) (fun _ => 1) a k0) k0 = some (k0 + ((1 * a.length : Nat) : Int)) := by
  unfold m_L_heldStringS
  have hc : ∀ xs : List ByteArray, cL (fun _ => 1) xs = 1 * xs.length := cL_const _ (fun _ => rfl)
  rw [held_loop (mkString N) (fun _ => 1) a k0 (by omega)]
  · rw [hc]; rfl
  · intro i hi hx
    obtain ⟨hi', hx⟩ := List.getElem?_eq_some_iff.1 hx
    have hb : cL (fun _ => 1) (a.take i) = 1 * i := by rw [hc, List.length_take]; omega
    rw [hb] at hx
    simp only [hb]
    have hx' : ixI (mkL (mkString N) (fun _ => 1) a k0) (i : Int) = some (mkString N a[i] (k0 + ((1 * i : Nat) : Int))) := by rw [ixI_nat hi', hx]
    have hl := mkL_len (mkString N) (fun _ => 1) a k0
    show m_L_heldStringS_b1 N (mkL (mkString N) (fun _ => 1) a k0) (k0 + ((1 * i : Nat) : Int)) i = _
    refine ok.val ?_
    unfold m_L_heldStringS_b1
    simp only [mkString] at hx'
    repeat' (first | (with_reducible refine ok.some ?_) | (with_reducible refine ok.ift rfl ?_) | (with_reducible refine ok.ift (by omega) ?_) | (with_reducible refine ok.eq hx' ?_) | (with_reducible refine ok.eq (mT_eq hN (by omega) (by omega)) ?_) | (with_reducible refine ok.bt (beq_self_eq_true _) ?_) | (with_reducible refine ok.ite (fun hc => ?_) (fun hc => ?_)) | (with_reducible refine ok.cond (fun hc => ?_) (fun hc => ?_)) | (with_reducible refine ok.chk (by omega) ?_) | (with_reducible refine ok.bs ?_) | (with_reducible refine ok.remM (by omega) (fun _ hq => ?_)) | (with_reducible refine ok.quoM (by omega) (fun _ hq => ?_)) | (with_reducible refine ok.ix (by omega) (by omega) (fun q hq he => ?_)))
    simp only [Int.add_assoc]; rfl
  · intro k
    unfold m_L_heldStringS_b1
    have hl := mkL_len (mkString N) (fun _ => 1) a k0
    rw [decide_eq_false (by show ¬ (a.length : Int) < _; omega)]; rfl
end
theorem szEntryS_ok {N : Nat} (hN : 100000000 ≤ N) {a : List L_Entry} (ha : a.length ≤ 9223372036854775807) (hd : ∀ s ∈ a, s.name.size ≤ 9223372036854775807 ∧ s.table.size ≤ 9223372036854775807) : ok (m_L_szEntryS N a 1048576) fun r => r < 0 ∨ (a.length ≤ 1048576 ∧ ∀ s ∈ a, s.name.size ≤ 1048576 ∧ s.table.size ≤ 1048576) := by
  unfold m_L_szEntryS
  refine ok.chk (by omega) ?_
  refine ok.ite (fun _ => ok.some (.inl (by omega))) fun hc => ?_
  have hl : a.length ≤ 1048576 := by omega
  refine ok.call (P := fun o => match o with | .inl r => (∀ s ∈ a, s.name.size ≤ 1048576 ∧ s.table.size ≤ 1048576) | .inr r => r < 0) (ok.each a.length (fun i s => s.2 = (i : Int) ∧ 0 ≤ s.1 ∧ s.1 ≤ 1048576 ∧ ∀ k (h : k < a.length), k < i → a[k].name.size ≤ 1048576 ∧ a[k].table.size ≤ 1048576) _ ?_ ?_ N 0 _ (Nat.zero_le _) ⟨rfl, by dsimp only; omega, by dsimp only; omega, fun k _ h => by omega⟩ (by omega)) ?_
  · rintro i ⟨lft, j⟩ hi ⟨rfl, h1, h2, h3⟩
    dsimp only at h1 h2 ⊢
    have hs := hd _ (List.getElem_mem hi)
    unfold m_L_szEntryS_b1 m_L_szEntry
    refine ok.ift (by omega) (ok.eq (ixI_nat hi) ?_)
    refine ok.call (P := fun r => r < 0 ∨ (0 ≤ r ∧ r = lft - (a[i].name.size : Int) - (a[i].table.size : Int))) ?_ fun r hr => ?_
    · refine ok.chk (by omega) (ok.ite (fun _ => ok.some (.inl (by omega))) fun _ => ok.chk (by omega) (ok.ite (fun _ => ok.some (.inl (by omega))) fun _ => ok.some (.inr (by omega))))
    · refine ok.ite (fun _ => ok.some (by omega)) fun _ => ok.chk (by omega) (ok.some ⟨rfl, by dsimp only; omega, by dsimp only; omega, fun k h4 h5 => ?_⟩)
      rcases Nat.lt_succ_iff_lt_or_eq.1 h5 with h6 | h6
      · exact h3 k h4 h6
      · subst h6; omega
  · rintro ⟨lft, j⟩ ⟨rfl, h1, h2, h3⟩
    dsimp only at h1 h2 ⊢
    unfold m_L_szEntryS_b1
    refine ok.iff (by omega) (ok.some ?_)
    intro s hs
    obtain ⟨k, hk, rfl⟩ := List.getElem_of_mem hs
    exact h3 k hk hk
  · rintro (r | r) hr
    · exact ok.some (.inr ⟨hl, hr⟩)
    · exact ok.some (.inl hr)
end V
end Go.Proofs.Ytlpbgmahegoidaa
