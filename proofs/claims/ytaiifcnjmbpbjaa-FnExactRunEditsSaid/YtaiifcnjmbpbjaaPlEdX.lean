/- The helpers of the edits' exact law, in plain words. No condition. -/
import Derived.Test.YtaiifcnjmbpbjaaPlX
import Derived.Test.YtaiifcnjmbpbjaaEdXa
import Derived.Test.YtaiifcnjmbpbjaaPlEd
namespace Go.Proofs.Ytaiifcnjmbpbjaa
namespace V
set_option linter.unusedVariables false
set_option linter.unusedSimpArgs false
set_option maxRecDepth 100000
set_option maxHeartbeats 1000000
def toEdit (x : L_Edit) : I_Edit := ⟨x.owner, x.thing, x.old_, x.new_⟩
def mkEdit (x : I_Edit) (k : Int) : I_Edit := ⟨k, k + 1, k + 1 + 1, k + 1 + 1 + 1⟩
theorem len_L_markEditS (N : Nat) (a : List I_Edit) (k : Int) (r : Int × List I_Edit) (h : m_L_markEditS N a k = some r) : r.2.length = a.length := by
  unfold m_L_markEditS at h
  obtain ⟨o, h1, h2⟩ := bind_some h
  unfold m_L_markEditS_k1 at h2
  cases h2
  refine al.loop (fun s => s.2.2.length = a.length) (fun b => b.2.length = a.length) ?_ N _ rfl _ h1
  rintro ⟨k, i, v⟩ hv
  show al (m_L_markEditS_b1 N k i v) _
  unfold m_L_markEditS_b1
  repeat' (first | exact al.some hv | (refine al.cond (fun _ => ?_) (fun _ => ?_)) | (refine al.bind (fun _ _ => ?_)) | (refine al.some ?_; simpa only [List.length_set] using hv))
section
variable {N : Nat} (hN : 100000000 ≤ N)
include hN
theorem toEditS_eq {a : List L_Edit} (ha : a.length ≤ 4000000) : m_L_toEditS N a = some (a.map toEdit) := by
  unfold m_L_toEditS
  have hm : mkM 32 (⟨0, 0, 0, 0⟩ : I_Edit) (a.length : Int) = some (List.replicate a.length ⟨0, 0, 0, 0⟩) := by unfold mkM; rw [if_pos (by omega)]; simp
  rw [hm]
  show (loopM _ N _).bind _ = _
  rw [to_loop a toEdit (List.replicate a.length ⟨0, 0, 0, 0⟩) (by simp) (by omega)]
  · rfl
  · intro i hi v hv
    unfold m_L_toEditS_b1 m_L_toEdit
    rw [decide_eq_true (by show (i : Int) < _; omega), cond_true, ixI_nat hi, ixI_nat (show i < v.length by omega), chk_eq (by show _ ≤ (i : Int) + 1 ∧ _; omega)]
    rfl
  · intro v
    unfold m_L_toEditS_b1
    rw [decide_eq_false (by show ¬ (a.length : Int) < _; omega)]; rfl
omit hN in
theorem eqEdit_self (a : I_Edit) : m_L_eqEdit N a a = some true := by
  unfold m_L_eqEdit
  simp
theorem eqEditS_self {a : List I_Edit} (ha : a.length ≤ 5000000) : m_L_eqEditS N a a = some true := by
  unfold m_L_eqEditS
  rw [decide_eq_true rfl, cond_true]
  have h := ok.up (body := fun s : Int => m_L_eqEditS_b1 N a a s) a.length (fun _ => True) (fun o => o = .inl ()) (N := N) (by omega) ?_ ?_
  · obtain ⟨o, e, rfl⟩ := h; rw [e]; rfl
  · intro i hi _
    show ok (m_L_eqEditS_b1 N a a i) _
    unfold m_L_eqEditS_b1
    refine ok.ift (by omega) (ok.eq (ixI_nat hi) (ok.eq (ixI_nat hi) (ok.eq (eqEdit_self _) (ok.bt rfl (ok.chk (by omega) (ok.some ⟨rfl, trivial⟩))))))
  · intro _
    show ok (m_L_eqEditS_b1 N a a _) _
    unfold m_L_eqEditS_b1
    exact ok.iff (by omega) (ok.some rfl)
theorem markEditS_eq {a : List I_Edit} (ha : a.length ≤ 5000000) {k0 : Int} (h0 : 1 ≤ k0 ∧ k0 ≤ 10000000) : m_L_markEditS N a k0 = some (k0 + ((4 * a.length : Nat) : Int), mkL mkEdit (fun _ => 4) a k0) := by
  unfold m_L_markEditS
  have hc : ∀ xs : List I_Edit, cL (fun _ => 4) xs = 4 * xs.length := cL_const _ (fun _ => rfl)
  rw [mark_loop mkEdit (fun _ => 4) a k0 (by omega)]
  · rw [hc]; rfl
  · intro i hi v hv hx
    obtain ⟨hi', hx⟩ := List.getElem?_eq_some_iff.1 hx
    have hb : cL (fun _ => 4) (a.take i) = 4 * i := by rw [hc, List.length_take]; omega
    simp only [hb]
    have hx' : ixI v (i : Int) = some a[i] := by rw [ixI_nat hi', hx]
    show m_L_markEditS_b1 N (k0 + ((4 * i : Nat) : Int)) i v = _
    refine ok.val ?_
    unfold m_L_markEditS_b1
    repeat' (first | (with_reducible refine ok.some ?_) | (with_reducible refine ok.ift (by omega) ?_) | (with_reducible refine ok.eq hx' ?_) | (with_reducible refine ok.ite (fun hc => ?_) (fun hc => ?_)) | (with_reducible refine ok.cond (fun hc => ?_) (fun hc => ?_)) | (with_reducible refine ok.chk (by omega) ?_) | (with_reducible refine ok.bs ?_) | (with_reducible refine ok.remM (by omega) (fun _ hq => ?_)) | (with_reducible refine ok.quoM (by omega) (fun _ hq => ?_)) | (with_reducible refine ok.ix (by omega) (by omega) (fun q hq he => ?_)))
    simp only [List.set_set, mkEdit, Int.toNat_natCast, Int.add_assoc]
    rfl
  · intro k v hv
    unfold m_L_markEditS_b1
    rw [decide_eq_false (by show ¬ (a.length : Int) < (v.length : Int); omega)]; rfl
end
def mkInt (x : Int) (k : Int) : Int := k
theorem len_L_markIntS (N : Nat) (a : List Int) (k : Int) (r : Int × List Int) (h : m_L_markIntS N a k = some r) : r.2.length = a.length := by
  unfold m_L_markIntS at h
  obtain ⟨o, h1, h2⟩ := bind_some h
  unfold m_L_markIntS_k1 at h2
  cases h2
  refine al.loop (fun s => s.2.2.length = a.length) (fun b => b.2.length = a.length) ?_ N _ rfl _ h1
  rintro ⟨k, i, v⟩ hv
  show al (m_L_markIntS_b1 N k i v) _
  unfold m_L_markIntS_b1
  repeat' (first | exact al.some hv | (refine al.cond (fun _ => ?_) (fun _ => ?_)) | (refine al.bind (fun _ _ => ?_)) | (refine al.some ?_; simpa only [List.length_set] using hv))
section
variable {N : Nat} (hN : 100000000 ≤ N)
include hN
theorem toIntS_eq {a : List Int} (ha : a.length ≤ 4000000) : m_L_toIntS N a = some a := by
  unfold m_L_toIntS
  have hm : mkM 8 (0 : Int) (a.length : Int) = some (List.replicate a.length 0) := by unfold mkM; rw [if_pos (by omega)]; simp
  rw [hm]
  show (loopM _ N _).bind _ = _
  rw [to_loop a (fun x => x) (List.replicate a.length 0) (by simp) (by omega)]
  · rw [List.map_id']; rfl
  · intro i hi v hv
    unfold m_L_toIntS_b1
    rw [decide_eq_true (by show (i : Int) < _; omega), cond_true, ixI_nat hi, ixI_nat (show i < v.length by omega), chk_eq (by show _ ≤ (i : Int) + 1 ∧ _; omega)]
    rfl
  · intro v
    unfold m_L_toIntS_b1
    rw [decide_eq_false (by show ¬ (a.length : Int) < _; omega)]; rfl
theorem eqIntS_self {a : List Int} (ha : a.length ≤ 5000000) : m_L_eqIntS N a a = some true := by
  unfold m_L_eqIntS
  rw [decide_eq_true rfl, cond_true]
  have h := ok.up (body := fun s : Int => m_L_eqIntS_b1 N a a s) a.length (fun _ => True) (fun o => o = .inl ()) (N := N) (by omega) ?_ ?_
  · obtain ⟨o, e, rfl⟩ := h; rw [e]; rfl
  · intro i hi _
    show ok (m_L_eqIntS_b1 N a a i) _
    unfold m_L_eqIntS_b1
    refine ok.ift (by omega) (ok.eq (ixI_nat hi) (ok.eq (ixI_nat hi) (ok.ift rfl (ok.chk (by omega) (ok.some ⟨rfl, trivial⟩)))))
  · intro _
    show ok (m_L_eqIntS_b1 N a a _) _
    unfold m_L_eqIntS_b1
    exact ok.iff (by omega) (ok.some rfl)
theorem markIntS_eq {a : List Int} (ha : a.length ≤ 5000000) {k0 : Int} (h0 : 1 ≤ k0 ∧ k0 ≤ 10000000) : m_L_markIntS N a k0 = some (k0 + ((1 * a.length : Nat) : Int), mkL mkInt (fun _ => 1) a k0) := by
  unfold m_L_markIntS
  have hc : ∀ xs : List Int, cL (fun _ => 1) xs = 1 * xs.length := cL_const _ (fun _ => rfl)
  rw [mark_loop mkInt (fun _ => 1) a k0 (by omega)]
  · rw [hc]; rfl
  · intro i hi v hv hx
    obtain ⟨hi', hx⟩ := List.getElem?_eq_some_iff.1 hx
    have hb : cL (fun _ => 1) (a.take i) = 1 * i := by rw [hc, List.length_take]; omega
    simp only [hb]
    have hx' : ixI v (i : Int) = some a[i] := by rw [ixI_nat hi', hx]
    show m_L_markIntS_b1 N (k0 + ((1 * i : Nat) : Int)) i v = _
    refine ok.val ?_
    unfold m_L_markIntS_b1
    repeat' (first | (with_reducible refine ok.some ?_) | (with_reducible refine ok.ift (by omega) ?_) | (with_reducible refine ok.eq hx' ?_) | (with_reducible refine ok.ite (fun hc => ?_) (fun hc => ?_)) | (with_reducible refine ok.cond (fun hc => ?_) (fun hc => ?_)) | (with_reducible refine ok.chk (by omega) ?_) | (with_reducible refine ok.bs ?_) | (with_reducible refine ok.remM (by omega) (fun _ hq => ?_)) | (with_reducible refine ok.quoM (by omega) (fun _ hq => ?_)) | (with_reducible refine ok.ix (by omega) (by omega) (fun q hq he => ?_)))
    simp only [List.set_set, mkInt, Int.toNat_natCast, Int.add_assoc]
    rfl
  · intro k v hv
    unfold m_L_markIntS_b1
    rw [decide_eq_false (by show ¬ (a.length : Int) < (v.length : Int); omega)]; rfl
theorem heldIntS_eq {a : List Int} (ha : a.length ≤ 5000000) {k0 : Int} (h0 : 1 ≤ k0 ∧ k0 ≤ 10000000) : m_L_heldIntS N (mkL mkInt (fun _ => 1) a k0) k0 = some (k0 + ((1 * a.length : Nat) : Int)) := by
  unfold m_L_heldIntS
  have hc : ∀ xs : List Int, cL (fun _ => 1) xs = 1 * xs.length := cL_const _ (fun _ => rfl)
  rw [held_loop mkInt (fun _ => 1) a k0 (by omega)]
  · rw [hc]; rfl
  · intro i hi hx
    obtain ⟨hi', hx⟩ := List.getElem?_eq_some_iff.1 hx
    have hb : cL (fun _ => 1) (a.take i) = 1 * i := by rw [hc, List.length_take]; omega
    rw [hb] at hx
    simp only [hb]
    have hx' : ixI (mkL mkInt (fun _ => 1) a k0) (i : Int) = some (mkInt a[i] (k0 + ((1 * i : Nat) : Int))) := by rw [ixI_nat hi', hx]
    have hl := mkL_len mkInt (fun _ => 1) a k0
    show m_L_heldIntS_b1 N (mkL mkInt (fun _ => 1) a k0) (k0 + ((1 * i : Nat) : Int)) i = _
    refine ok.val ?_
    unfold m_L_heldIntS_b1
    simp only [mkInt] at hx'
    repeat' (first | (with_reducible refine ok.some ?_) | (with_reducible refine ok.ift rfl ?_) | (with_reducible refine ok.ift (by omega) ?_) | (with_reducible refine ok.eq hx' ?_) | (with_reducible refine ok.ite (fun hc => ?_) (fun hc => ?_)) | (with_reducible refine ok.cond (fun hc => ?_) (fun hc => ?_)) | (with_reducible refine ok.chk (by omega) ?_) | (with_reducible refine ok.bs ?_) | (with_reducible refine ok.remM (by omega) (fun _ hq => ?_)) | (with_reducible refine ok.quoM (by omega) (fun _ hq => ?_)) | (with_reducible refine ok.ix (by omega) (by omega) (fun q hq he => ?_)))
    simp only [Int.add_assoc]; rfl
  · intro k
    unfold m_L_heldIntS_b1
    have hl := mkL_len mkInt (fun _ => 1) a k0
    rw [decide_eq_false (by show ¬ (a.length : Int) < _; omega)]; rfl
end
theorem szEditS_ok (N : Nat) {a : List L_Edit} (ha : a.length ≤ 9223372036854775807) : ok (m_L_szEditS N a 1048576) fun r => r < 0 ∨ a.length ≤ 1048576 := by
  unfold m_L_szEditS
  exact ok.chk (by omega) (ok.ite (fun _ => ok.some (.inl (by omega))) fun _ => ok.some (.inr (by omega)))
end V
end Go.Proofs.Ytaiifcnjmbpbjaa
