/- The helpers of the space's exact laws, in plain words. No condition. -/
import Derived.Test.YtambkpacecjheaaPlX
import Derived.Test.YtambkpacecjheaaPlB
import Derived.Test.YtambkpacecjheaaSpXa
import Derived.Test.YtambkpacecjheaaPlSpB
namespace Go.Proofs.Ytambkpacecjheaa
namespace V
set_option linter.unusedVariables false
set_option linter.unusedSimpArgs false
set_option maxRecDepth 100000
set_option maxHeartbeats 1000000
def mkInt (x : Int) (k : Int) : Int := k
theorem len_L_markIntS (N : Nat) (a : List Int) (k : Int) (r : Int × List Int) (h : m_L_markIntS N a k = some r) : r.2.length = a.length := by
  unfold m_L_markIntS at h
  obtain ⟨o, h1, h2⟩ := bind_some h
  unfold m_L_markIntS_k1 at h2
  cases h2
  refine al.loop (fun s => s.2.2.length = a.length) (fun b => b.2.length = a.length) ?_ N _ rfl _ h1
  rintro ⟨k, i, v⟩ hv
  show al (m_L_markIntS_b1 N k i v) _
  unfold m_L_markIntS_b1
  repeat' (first | exact al.some hv | (refine al.cond (fun _ => ?_) (fun _ => ?_)) | (refine al.bind (fun _ _ => ?_)) | (refine al.some ?_; simpa only [List.length_set] using hv))
section
variable {N : Nat} (hN : 100000000 ≤ N)
include hN
theorem toIntS_eq {a : List Int} (ha : a.length ≤ 4000000) : m_L_toIntS N a = some a := by
  unfold m_L_toIntS
  have hm : mkM 8 (0 : Int) (a.length : Int) = some (List.replicate a.length 0) := by unfold mkM; rw [if_pos (by omega)]; simp
  rw [hm]
  show (loopM _ N _).bind _ = _
  rw [to_loop a (fun x => x) (List.replicate a.length 0) (by simp) (by omega)]
  · rw [List.map_id']; rfl
  · intro i hi v hv
    unfold m_L_toIntS_b1
    rw [decide_eq_true (by show (i : Int) < _; omega), cond_true, ixI_nat hi, ixI_nat (show i < v.length by omega), chk_eq (by show _ ≤ (i : Int) + 1 ∧ _; omega)]
    rfl
  · intro v
    unfold m_L_toIntS_b1
    rw [decide_eq_false (by show ¬ (a.length : Int) < _; omega)]; rfl
theorem eqIntS_self {a : List Int} (ha : a.length ≤ 5000000) : m_L_eqIntS N a a = some true := by
  unfold m_L_eqIntS
  rw [decide_eq_true rfl, cond_true]
  have h := ok.up (body := fun s : Int => m_L_eqIntS_b1 N a a s) a.length (fun _ => True) (fun o => o = .inl ()) (N := N) (by omega) ?_ ?_
  · obtain ⟨o, e, rfl⟩ := h; rw [e]; rfl
  · intro i hi _
    show ok (m_L_eqIntS_b1 N a a i) _
    unfold m_L_eqIntS_b1
    refine ok.ift (by omega) (ok.eq (ixI_nat hi) (ok.eq (ixI_nat hi) (ok.ift rfl (ok.chk (by omega) (ok.some ⟨rfl, trivial⟩)))))
  · intro _
    show ok (m_L_eqIntS_b1 N a a _) _
    unfold m_L_eqIntS_b1
    exact ok.iff (by omega) (ok.some rfl)
theorem markIntS_eq {a : List Int} (ha : a.length ≤ 5000000) {k0 : Int} (h0 : 1 ≤ k0 ∧ k0 ≤ 10000000) : m_L_markIntS N a k0 = some (k0 + ((1 * a.length : Nat) : Int), mkL mkInt (fun _ => 1) a k0) := by
  unfold m_L_markIntS
  have hc : ∀ xs : List Int, cL (fun _ => 1) xs = 1 * xs.length := cL_const _ (fun _ => rfl)
  rw [mark_loop mkInt (fun _ => 1) a k0 (by omega)]
  · rw [hc]; rfl
  · intro i hi v hv hx
    obtain ⟨hi', hx⟩ := List.getElem?_eq_some_iff.1 hx
    have hb : cL (fun _ => 1) (a.take i) = 1 * i := by rw [hc, List.length_take]; omega
    simp only [hb]
    have hx' : ixI v (i : Int) = some a[i] := by rw [ixI_nat hi', hx]
    show m_L_markIntS_b1 N (k0 + ((1 * i : Nat) : Int)) i v = _
    refine ok.val ?_
    unfold m_L_markIntS_b1
    repeat' (first | (with_reducible refine ok.some ?_) | (with_reducible refine ok.ift (by omega) ?_) | (with_reducible refine ok.eq hx' ?_) | (with_reducible refine ok.ite (fun hc => ?_) (fun hc => ?_)) | (with_reducible refine ok.cond (fun hc => ?_) (fun hc => ?_)) | (with_reducible refine ok.chk (by omega) ?_) | (with_reducible refine ok.bs ?_) | (with_reducible refine ok.remM (by omega) (fun _ hq => ?_)) | (with_reducible refine ok.quoM (by omega) (fun _ hq => ?_)) | (with_reducible refine ok.ix (by omega) (by omega) (fun q hq he => ?_)))
    simp only [List.set_set, mkInt, Int.toNat_natCast, Int.add_assoc]
    rfl
  · intro k v hv
    unfold m_L_markIntS_b1
    rw [decide_eq_false (by show ¬ (a.length : Int) < (v.length : Int); omega)]; rfl
theorem heldIntS_eq {a : List Int} (ha : a.length ≤ 5000000) {k0 : Int} (h0 : 1 ≤ k0 ∧ k0 ≤ 10000000) : m_L_heldIntS N (mkL mkInt (fun _ => 1) a k0) k0 = some (k0 + ((1 * a.length : Nat) : Int)) := by
  unfold m_L_heldIntS
  have hc : ∀ xs : List Int, cL (fun _ => 1) xs = 1 * xs.length := cL_const _ (fun _ => rfl)
  rw [held_loop mkInt (fun _ => 1) a k0 (by omega)]
  · rw [hc]; rfl
  · intro i hi hx
    obtain ⟨hi', hx⟩ := List.getElem?_eq_some_iff.1 hx
    have hb : cL (fun _ => 1) (a.take i) = 1 * i := by rw [hc, List.length_take]; omega
    rw [hb] at hx
    simp only [hb]
    have hx' : ixI (mkL mkInt (fun _ => 1) a k0) (i : Int) = some (mkInt a[i] (k0 + ((1 * i : Nat) : Int))) := by rw [ixI_nat hi', hx]
    have hl := mkL_len mkInt (fun _ => 1) a k0
    show m_L_heldIntS_b1 N (mkL mkInt (fun _ => 1) a k0) (k0 + ((1 * i : Nat) : Int)) i = _
    refine ok.val ?_
    unfold m_L_heldIntS_b1
    simp only [mkInt] at hx'
    repeat' (first | (with_reducible refine ok.some ?_) | (with_reducible refine ok.ift rfl ?_) | (with_reducible refine ok.ift (by omega) ?_) | (with_reducible refine ok.eq hx' ?_) | (with_reducible refine ok.ite (fun hc => ?_) (fun hc => ?_)) | (with_reducible refine ok.cond (fun hc => ?_) (fun hc => ?_)) | (with_reducible refine ok.chk (by omega) ?_) | (with_reducible refine ok.bs ?_) | (with_reducible refine ok.remM (by omega) (fun _ hq => ?_)) | (with_reducible refine ok.quoM (by omega) (fun _ hq => ?_)) | (with_reducible refine ok.ix (by omega) (by omega) (fun q hq he => ?_)))
    simp only [Int.add_assoc]; rfl
  · intro k
    unfold m_L_heldIntS_b1
    have hl := mkL_len mkInt (fun _ => 1) a k0
    rw [decide_eq_false (by show ¬ (a.length : Int) < _; omega)]; rfl
end
def toHold (x : L_Hold) : I_Hold := ⟨x.page, x.since⟩
def mkHold (x : I_Hold) (k : Int) : I_Hold := ⟨k, k + 1⟩
theorem len_L_markHoldS (N : Nat) (a : List I_Hold) (k : Int) (r : Int × List I_Hold) (h : m_L_markHoldS N a k = some r) : r.2.length = a.length := by
  unfold m_L_markHoldS at h
  obtain ⟨o, h1, h2⟩ := bind_some h
  unfold m_L_markHoldS_k1 at h2
  cases h2
  refine al.loop (fun s => s.2.2.length = a.length) (fun b => b.2.length = a.length) ?_ N _ rfl _ h1
  rintro ⟨k, i, v⟩ hv
  show al (m_L_markHoldS_b1 N k i v) _
  unfold m_L_markHoldS_b1
  repeat' (first | exact al.some hv | (refine al.cond (fun _ => ?_) (fun _ => ?_)) | (refine al.bind (fun _ _ => ?_)) | (refine al.some ?_; simpa only [List.length_set] using hv))
section
variable {N : Nat} (hN : 100000000 ≤ N)
include hN
theorem toHoldS_eq {a : List L_Hold} (ha : a.length ≤ 4000000) : m_L_toHoldS N a = some (a.map toHold) := by
  unfold m_L_toHoldS
  have hm : mkM 16 (⟨0, 0⟩ : I_Hold) (a.length : Int) = some (List.replicate a.length ⟨0, 0⟩) := by unfold mkM; rw [if_pos (by omega)]; simp
  rw [hm]
  show (loopM _ N _).bind _ = _
  rw [to_loop a toHold (List.replicate a.length ⟨0, 0⟩) (by simp) (by omega)]
  · rfl
  · intro i hi v hv
    unfold m_L_toHoldS_b1 m_L_toHold
    rw [decide_eq_true (by show (i : Int) < _; omega), cond_true, ixI_nat hi, ixI_nat (show i < v.length by omega), chk_eq (by show _ ≤ (i : Int) + 1 ∧ _; omega)]
    rfl
  · intro v
    unfold m_L_toHoldS_b1
    rw [decide_eq_false (by show ¬ (a.length : Int) < _; omega)]; rfl
omit hN in
theorem eqHold_self (a : I_Hold) : m_L_eqHold N a a = some true := by
  unfold m_L_eqHold
  simp
theorem eqHoldS_self {a : List I_Hold} (ha : a.length ≤ 5000000) : m_L_eqHoldS N a a = some true := by
  unfold m_L_eqHoldS
  rw [decide_eq_true rfl, cond_true]
  have h := ok.up (body := fun s : Int => m_L_eqHoldS_b1 N a a s) a.length (fun _ => True) (fun o => o = .inl ()) (N := N) (by omega) ?_ ?_
  · obtain ⟨o, e, rfl⟩ := h; rw [e]; rfl
  · intro i hi _
    show ok (m_L_eqHoldS_b1 N a a i) _
    unfold m_L_eqHoldS_b1
    refine ok.ift (by omega) (ok.eq (ixI_nat hi) (ok.eq (ixI_nat hi) (ok.eq (eqHold_self _) (ok.bt rfl (ok.chk (by omega) (ok.some ⟨rfl, trivial⟩))))))
  · intro _
    show ok (m_L_eqHoldS_b1 N a a _) _
    unfold m_L_eqHoldS_b1
    exact ok.iff (by omega) (ok.some rfl)
theorem markHoldS_eq {a : List I_Hold} (ha : a.length ≤ 5000000) {k0 : Int} (h0 : 1 ≤ k0 ∧ k0 ≤ 10000000) : m_L_markHoldS N a k0 = some (k0 + ((2 * a.length : Nat) : Int), mkL mkHold (fun _ => 2) a k0) := by
  unfold m_L_markHoldS
  have hc : ∀ xs : List I_Hold, cL (fun _ => 2) xs = 2 * xs.length := cL_const _ (fun _ => rfl)
  rw [mark_loop mkHold (fun _ => 2) a k0 (by omega)]
  · rw [hc]; rfl
  · intro i hi v hv hx
    obtain ⟨hi', hx⟩ := List.getElem?_eq_some_iff.1 hx
    have hb : cL (fun _ => 2) (a.take i) = 2 * i := by rw [hc, List.length_take]; omega
    simp only [hb]
    have hx' : ixI v (i : Int) = some a[i] := by rw [ixI_nat hi', hx]
    show m_L_markHoldS_b1 N (k0 + ((2 * i : Nat) : Int)) i v = _
    refine ok.val ?_
    unfold m_L_markHoldS_b1
    repeat' (first | (with_reducible refine ok.some ?_) | (with_reducible refine ok.ift (by omega) ?_) | (with_reducible refine ok.eq hx' ?_) | (with_reducible refine ok.ite (fun hc => ?_) (fun hc => ?_)) | (with_reducible refine ok.cond (fun hc => ?_) (fun hc => ?_)) | (with_reducible refine ok.chk (by omega) ?_) | (with_reducible refine ok.bs ?_) | (with_reducible refine ok.remM (by omega) (fun _ hq => ?_)) | (with_reducible refine ok.quoM (by omega) (fun _ hq => ?_)) | (with_reducible refine ok.ix (by omega) (by omega) (fun q hq he => ?_)))
    simp only [List.set_set, mkHold, Int.toNat_natCast, Int.add_assoc]
    rfl
  · intro k v hv
    unfold m_L_markHoldS_b1
    rw [decide_eq_false (by show ¬ (a.length : Int) < (v.length : Int); omega)]; rfl
theorem heldHoldS_eq {a : List I_Hold} (ha : a.length ≤ 5000000) {k0 : Int} (h0 : 1 ≤ k0 ∧ k0 ≤ 10000000) : m_L_heldHoldS N (mkL mkHold (fun _ => 2) a k0) k0 = some (k0 + ((2 * a.length : Nat) : Int)) := by
  unfold m_L_heldHoldS
  have hc : ∀ xs : List I_Hold, cL (fun _ => 2) xs = 2 * xs.length := cL_const _ (fun _ => rfl)
  rw [held_loop mkHold (fun _ => 2) a k0 (by omega)]
  · rw [hc]; rfl
  · intro i hi hx
    obtain ⟨hi', hx⟩ := List.getElem?_eq_some_iff.1 hx
    have hb : cL (fun _ => 2) (a.take i) = 2 * i := by rw [hc, List.length_take]; omega
    rw [hb] at hx
    simp only [hb]
    have hx' : ixI (mkL mkHold (fun _ => 2) a k0) (i : Int) = some (mkHold a[i] (k0 + ((2 * i : Nat) : Int))) := by rw [ixI_nat hi', hx]
    have hl := mkL_len mkHold (fun _ => 2) a k0
    show m_L_heldHoldS_b1 N (mkL mkHold (fun _ => 2) a k0) (k0 + ((2 * i : Nat) : Int)) i = _
    refine ok.val ?_
    unfold m_L_heldHoldS_b1
    simp only [mkHold] at hx'
    repeat' (first | (with_reducible refine ok.some ?_) | (with_reducible refine ok.ift rfl ?_) | (with_reducible refine ok.ift (by omega) ?_) | (with_reducible refine ok.eq hx' ?_) | (with_reducible refine ok.bt (by rw [hq.1]; exact beq_self_eq_true _) ?_) | (with_reducible refine ok.ite (fun hc => ?_) (fun hc => ?_)) | (with_reducible refine ok.cond (fun hc => ?_) (fun hc => ?_)) | (with_reducible refine ok.chk (by omega) ?_) | (with_reducible refine ok.bs ?_) | (with_reducible refine ok.remM (by omega) (fun _ hq => ?_)) | (with_reducible refine ok.quoM (by omega) (fun _ hq => ?_)) | (with_reducible refine ok.ix (by omega) (by omega) (fun q hq he => ?_)))
    simp only [Int.add_assoc]; rfl
  · intro k
    unfold m_L_heldHoldS_b1
    have hl := mkL_len mkHold (fun _ => 2) a k0
    rw [decide_eq_false (by show ¬ (a.length : Int) < _; omega)]; rfl
end

theorem len_L_markSpace (N : Nat) (a : I_Space) (k : Int) (r : Int × List Int × List I_Hold) (h : m_L_markSpace N a k = some r) : r.2.1.length = a.free.length ∧ r.2.2.length = a.held.length := by
  unfold m_L_markSpace at h
  obtain ⟨o, h1, h2⟩ := bind_some h
  obtain ⟨o2, h3, h4⟩ := bind_some h2
  cases h4
  exact ⟨len_L_markIntS N _ _ _ h1, len_L_markHoldS N _ _ _ h3⟩
def toSp (x : L_Space) : I_Space := ⟨x.pages, x.free, x.held.map toHold⟩
def mkSp (x : I_Space) : I_Space := ⟨x.pages, mkL mkInt (fun _ => 1) x.free 1, mkL mkHold (fun _ => 2) x.held (1 + ((1 * x.free.length : Nat) : Int))⟩
def cSp (x : I_Space) : Int := 1 + ((1 * x.free.length : Nat) : Int) + ((2 * x.held.length : Nat) : Int)
section
variable {N : Nat} (hN : 100000000 ≤ N)
include hN
theorem toSpace_eq {a : L_Space} (h1 : a.free.length ≤ 4000000) (h2 : a.held.length ≤ 4000000) : m_L_toSpace N a = some (toSp a) := by
  unfold m_L_toSpace; rw [toIntS_eq hN h1]
  show (m_L_toHoldS N a.held).bind _ = _
  rw [toHoldS_eq hN h2]; rfl
theorem eqSpace_self {a : I_Space} (h1 : a.free.length ≤ 4000000) (h2 : a.held.length ≤ 4000000) : m_L_eqSpace N a a = some true := by
  unfold m_L_eqSpace
  exact ok.val (ok.ift rfl (ok.eq (eqIntS_self hN (by omega)) (ok.bt rfl (ok.eq (eqHoldS_self hN (by omega)) (ok.bt rfl (ok.some rfl))))))
theorem markSpace_eq {a : I_Space} (h1 : a.free.length ≤ 4000000) (h2 : a.held.length ≤ 4000000) : m_L_markSpace N a 1 = some (cSp a, (mkSp a).free, (mkSp a).held) := by
  unfold m_L_markSpace
  exact ok.val (ok.eq (markIntS_eq hN (by omega) (by omega)) (ok.eq (markHoldS_eq hN (by omega) (by omega)) (ok.some rfl)))
theorem heldSpace_eq {a : I_Space} (h1 : a.free.length ≤ 4000000) (h2 : a.held.length ≤ 4000000) : m_L_heldSpace N ⟨a.pages, (mkSp a).free, (mkSp a).held⟩ 1 = some (cSp a) := by
  unfold m_L_heldSpace
  exact ok.val (ok.eq (heldIntS_eq hN (by omega) (by omega)) (ok.iff (by omega) (ok.eq (heldHoldS_eq hN (by omega) (by omega)) (ok.iff (by omega) (ok.some rfl)))))
omit hN in
theorem szSpace_ok {a : L_Space} (h1 : a.free.length ≤ 9223372036854775807) (h2 : a.held.length ≤ 9223372036854775807) : ok (m_L_szSpace N a 1048576) fun r => r < 0 ∨ (a.free.length ≤ 1048576 ∧ a.held.length ≤ 1048576) := by
  unfold m_L_szSpace m_L_szIntS m_L_szHoldS
  refine ok.call (P := fun r => r < 0 ∨ (r ≤ 1048576 ∧ 0 ≤ r ∧ a.free.length ≤ 1048576)) (ok.chk (by omega) (ok.ite (fun _ => ok.some (.inl (by omega))) fun _ => ok.some (.inr (by omega)))) fun r hr => ?_
  refine ok.ite (fun _ => ok.some (.inl (by omega))) fun hc => ?_
  refine ok.call (P := fun r => r < 0 ∨ (a.held.length ≤ 1048576)) (ok.chk (by omega) (ok.ite (fun _ => ok.some (.inl (by omega))) fun _ => ok.some (.inr (by omega)))) fun r2 hr2 => ?_
  refine ok.ite (fun _ => ok.some (.inl (by omega))) fun hc2 => ok.some (.inr (by omega))
end
end V
end Go.Proofs.Ytambkpacecjheaa
