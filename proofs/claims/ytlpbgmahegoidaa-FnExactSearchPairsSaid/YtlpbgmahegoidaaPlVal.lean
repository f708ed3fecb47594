/- Values and their keys: what the functions compute, in plain words. No condition. -/
import Derived.Test.YtlpbgmahegoidaaPlC
import Derived.Test.YtlpbgmahegoidaaQra
namespace Go.Proofs.Ytlpbgmahegoidaa
namespace V
set_option linter.unusedVariables false
set_option linter.unusedSimpArgs false
set_option maxHeartbeats 1000000
theorem inRange_eq (N : Nat) (a l h : Int) : m_S_inRange N a l h = some (decide (l ≤ a ∧ a ≤ h)) := inRange_of a l h
/-- A text that is a value. -/
def vTx (u : ByteArray) : Prop := u.size ≤ 12 ∧ inR 32 126 u
noncomputable instance (u : ByteArray) : Decidable (vTx u) := Classical.propDecidable _
/-- A value that is valid. -/
def vV (v : I_Value) : Prop := (v.kind = 0 ∧ v.num = 0 ∧ v.text = ByteArray.empty) ∨ (v.kind = 1 ∧ -999999 ≤ v.num ∧ v.num ≤ 999999 ∧ v.text = ByteArray.empty) ∨ (v.kind = 2 ∧ v.num = 0 ∧ vTx v.text)
noncomputable instance (v : I_Value) : Decidable (vV v) := Classical.propDecidable _
section
variable {N : Nat} (hN : 100000000 ≤ N)
include hN
theorem vTxI {u : ByteArray} (h : u.size ≤ 5000000) : m_I_validText N u = some (decide (vTx u)) := by
  refine bool_eq ?_
  unfold m_I_validText
  refine ok.ite (fun hc => ok.some ⟨fun e => (by cases e), fun e => (by have := e.1; omega)⟩) fun h2 => ?_
  refine ok.call (text_ok (u := u) 32 126 (by omega) (by omega) (fun i hi => ?_) ?_) ?_
  · show m_I_validText_b1 N u (i : Int) = _
    unfold m_I_validText_b1
    rw [decide_eq_true (by omega), cond_true, ixS_nat hi]
    simp only [Option.bind_some]
    have e1 : ((32 : UInt8).toNat : Int) = 32 := rfl
    have e2 : ((126 : UInt8).toNat : Int) = 126 := rfl
    rw [e1, e2]
    by_cases c1 : (u[i].toNat : Int) < 32
    · rw [decide_eq_true c1, cond_true, if_neg (by omega)]
    · rw [decide_eq_false c1, cond_false]
      by_cases c2 : (126 : Int) < (u[i].toNat : Int)
      · rw [decide_eq_true c2, cond_true, if_neg (by omega)]
      · rw [decide_eq_false c2, cond_false, if_pos (by omega), chk_eq (by omega)]; rfl
  · show m_I_validText_b1 N u _ = _
    unfold m_I_validText_b1
    rw [decide_eq_false (by omega)]; rfl
  · rintro _ (⟨rfl, h⟩ | ⟨rfl, h⟩)
    · exact ok.some ⟨fun _ => ⟨by omega, h⟩, fun _ => rfl⟩
    · exact ok.some ⟨fun e => (by cases e), fun e => (h e.2).elim⟩
theorem vTxS {u : ByteArray} (h : u.size ≤ 5000000) : m_S_validText N u = some (decide (vTx u)) := by
  refine bool_eq ?_
  unfold m_S_validText
  refine ok.call (text_ok (u := u) 32 126 (by omega) (by omega) (fun i hi => ?_) ?_) ?_
  · show m_S_validText_b1 N u (i : Int) = _
    unfold m_S_validText_b1
    rw [decide_eq_true (by omega), cond_true, ixS_nat hi]
    simp only [Option.bind_some]
    rw [inRange_eq]
    simp only [Option.bind_some]
    by_cases c1 : 32 ≤ (u[i].toNat : Int) ∧ (u[i].toNat : Int) ≤ 126
    · rw [decide_eq_true c1, cond_true, if_pos c1, chk_eq (by omega)]; rfl
    · rw [decide_eq_false c1, cond_false, if_neg c1]
  · show m_S_validText_b1 N u _ = _
    unfold m_S_validText_b1
    rw [decide_eq_false (by omega)]; rfl
  · rintro _ (⟨rfl, h⟩ | ⟨rfl, h⟩)
    · unfold m_S_validText_k1
      refine ok.some ?_
      rw [decide_eq_true_eq]
      exact ⟨fun e => ⟨by omega, h⟩, fun e => by have := e.1; omega⟩
    · exact ok.some ⟨fun e => (by cases e), fun e => (h e.2).elim⟩
theorem vVI {v : I_Value} (h : v.text.size ≤ 5000000) : m_I_ValidValue N v = some (decide (vV v)) := by
  refine bool_eq ?_
  unfold m_I_ValidValue vV
  refine ok.ite (fun k0 => ok.ite (fun n0 => ok.some ?_) fun n0 => ok.some ?_) fun k0 => ok.ite (fun k1 => ok.ite (fun n0 => ok.ite (fun n1 => ok.some ?_) fun n1 => ok.some ?_) fun n0 => ok.some ?_) fun k1 => ok.ite (fun k2 => ok.ite (fun n0 => ok.eq (vTxI hN h) (ok.some ?_)) fun n0 => ok.some ?_) fun k2 => ok.some ?_
  · rw [textEq, decide_eq_true_eq]; exact ⟨fun e => .inl ⟨k0, n0, e⟩, fun e => by rcases e with e | e | e; exact e.2.2; omega; omega⟩
  · exact ⟨fun e => (by cases e), fun e => by omega⟩
  · rw [textEq, decide_eq_true_eq]; exact ⟨fun e => .inr (.inl ⟨k1, n0, n1, e⟩), fun e => by rcases e with e | e | e; omega; exact e.2.2.2; omega⟩
  · exact ⟨fun e => (by cases e), fun e => by omega⟩
  · exact ⟨fun e => (by cases e), fun e => by omega⟩
  · rw [decide_eq_true_eq]; exact ⟨fun e => .inr (.inr ⟨k2, n0, e⟩), fun e => by rcases e with e | e | e; omega; omega; exact e.2.2⟩
  · exact ⟨fun e => (by cases e), fun e => by omega⟩
  · exact ⟨fun e => (by cases e), fun e => by omega⟩
theorem vVS {v : I_Value} (h : v.text.size ≤ 5000000) : m_S_validValue N v = some (decide (vV v)) := by
  refine bool_eq ?_
  unfold m_S_validValue vV
  refine ok.ite (fun k0 => ok.ite (fun n0 => ok.some ?_) fun n0 => ok.some ?_) fun k0 => ok.ite (fun k1 => ok.eq (inRange_eq N _ _ _) (ok.ite (fun n0 => ok.some ?_) fun n0 => ok.some ?_)) fun k1 => ok.ite (fun k2 => ok.ite (fun n0 => ok.eq (vTxS hN h) (ok.some ?_)) fun n0 => ok.some ?_) fun k2 => ok.some ?_
  · rw [textEq, decide_eq_true_eq]; exact ⟨fun e => .inl ⟨k0, n0, e⟩, fun e => by rcases e with e | e | e; exact e.2.2; omega; omega⟩
  · exact ⟨fun e => (by cases e), fun e => by omega⟩
  · rw [textEq, decide_eq_true_eq]; exact ⟨fun e => .inr (.inl ⟨k1, n0.1, n0.2, e⟩), fun e => by rcases e with e | e | e; omega; exact e.2.2.2; omega⟩
  · exact ⟨fun e => (by cases e), fun e => by omega⟩
  · rw [decide_eq_true_eq]; exact ⟨fun e => .inr (.inr ⟨k2, n0, e⟩), fun e => by rcases e with e | e | e; omega; omega; exact e.2.2⟩
  · exact ⟨fun e => (by cases e), fun e => by omega⟩
  · exact ⟨fun e => (by cases e), fun e => by omega⟩
end
/-- A number's four bytes. -/
def numB (n : Int) : List UInt8 := [i2b (48 + (n + 999999) / 200000), i2b (32 + (n + 999999) / 4000 % 50), i2b (32 + (n + 999999) / 80 % 50), i2b (32 + (n + 999999) % 80)]
/-- A value's bytes. -/
def keyB (v : I_Value) : List UInt8 := if v.kind = 0 then [97] else if v.kind = 1 then 98 :: numB v.num else 99 :: (bytesL v.text ++ [1])
/-- The key of one value. -/
def keyP (v : I_Value) : ByteArray := b2s (keyB v)
theorem b2s_app (xs ys : List UInt8) : b2s (xs ++ ys) = b2s xs ++ b2s ys := by
  apply ByteArray.ext
  rw [ByteArray.data_append]
  unfold b2s
  simp
theorem b2s_bytes (u : ByteArray) : b2s (bytesL u) = u := by
  apply ByteArray.ext
  unfold b2s bytesL
  simp
theorem b2s_size (xs : List UInt8) : (b2s xs).size = xs.length := rfl
section
variable {N : Nat} (hN : 100000000 ≤ N)
include hN
omit hN in
theorem encodeNum_ok {n : Int} (h : -999999 ≤ n ∧ n ≤ 999999) : m_S_encodeNum N n = some (b2s (numB n)) := by
  refine ok.val ?_
  unfold m_S_encodeNum numB
  refine ok.chk (by omega) ?_
  refine ok.eq (quoM_eq (by omega)) (ok.chk (by omega) (ok.eq (quoM_eq (by omega)) (ok.eq (remM_eq (by omega)) (ok.chk (by omega) (ok.eq (quoM_eq (by omega)) (ok.eq (remM_eq (by omega)) (ok.chk (by omega) (ok.eq (remM_eq (by omega)) (ok.chk (by omega) (ok.some rfl)))))))))) 
omit hN in
theorem loopM_1 {S β : Type} {body : S → Option (S ⊕ β)} {s s' : S} {b : β} (hN : 2 ≤ N) (h1 : body s = some (.inl s')) (h2 : body s' = some (.inr b)) : loopM body N s = some b := by
  obtain ⟨M, rfl⟩ : ∃ M, N = M + 2 := ⟨N - 2, by omega⟩
  unfold loopM
  rw [h1]
  show loopM body (M + 1) s' = _
  unfold loopM
  rw [h2]
theorem keyS {v : I_Value} (h : vV v) : m_S_encodeKey N [v] = some (keyP v) := by
  have h0 : ixI [v] (0 : Int) = some v := rfl
  have e0 : ByteArray.empty.size = 0 := rfl
  have e1 : (ByteArray.mk #[97]).size = 1 := rfl
  have e2 : (ByteArray.mk #[98]).size = 1 := rfl
  have e3 : (ByteArray.mk #[99]).size = 1 := rfl
  have e4 : (ByteArray.mk #[1]).size = 1 := rfl
  have hb : m_S_encodeKey_b1 N [v] ByteArray.empty 0 = some (.inl (keyP v, 1)) := by
    refine ok.val ?_
    unfold m_S_encodeKey_b1
    refine ok.ift (by simp) (ok.eq h0 ?_)
    unfold keyP keyB
    rcases h with ⟨k, n, t⟩ | ⟨k, n1, n2, t⟩ | ⟨k, n, t⟩
    · refine ok.ift k (ok.eq (addS_eq (by omega)) (ok.chk (by omega) (ok.some ?_)))
      rw [if_pos k]; rfl
    · have hl : (b2s (numB v.num)).size = 4 := rfl
      refine ok.iff (by omega) (ok.ift k (ok.eq (addS_eq (by omega)) (ok.eq h0 (ok.eq (encodeNum_ok ⟨n1, n2⟩) (ok.eq (addS_eq ?_) (ok.chk (by omega) (ok.some ?_)))))))
      · rw [ByteArray.size_append]; omega
      · have : b2s (98 :: numB v.num) = b2s ([98] ++ numB v.num) := rfl
        rw [if_neg (by omega), if_pos k, this, b2s_app]
        have : ByteArray.empty ++ ByteArray.mk #[98] = b2s [98] := rfl
        rw [this]; rfl
    · have hs := t.1
      refine ok.iff (by omega) (ok.iff (by omega) (ok.ift k (ok.eq (addS_eq (by omega)) (ok.eq h0 (ok.eq (addS_eq ?_) (ok.eq (addS_eq ?_) (ok.chk (by omega) (ok.some ?_))))))))
      · rw [ByteArray.size_append]; omega
      · rw [ByteArray.size_append, ByteArray.size_append]; omega
      · have : b2s (99 :: (bytesL v.text ++ [1])) = b2s ([99] ++ bytesL v.text ++ [1]) := rfl
        rw [if_neg (by omega), if_neg (by omega), this, b2s_app, b2s_app, b2s_bytes]
        have : ByteArray.empty ++ ByteArray.mk #[99] = b2s [99] := rfl
        rw [this]; rfl
  have he : m_S_encodeKey_b1 N [v] (keyP v) 1 = some (.inr (keyP v)) := by
    unfold m_S_encodeKey_b1
    rw [decide_eq_false (by simp)]; rfl
  unfold m_S_encodeKey
  rw [loopM_1 (by omega) hb he]; rfl
theorem keyI {v : I_Value} (h : vV v) (hbd : v.text.size ≤ 5000000) : m_I_EncodeKey N [v] = some (keyP v) := by
  have h0 : ixI [v] (0 : Int) = some v := rfl
  have hrow : m_I_validRow N [v] = some true := by
    have hb : m_I_validRow_b1 N [v] 0 = some (.inl 1) := by
      refine ok.val ?_
      unfold m_I_validRow_b1
      exact ok.ift (by simp) (ok.eq h0 (ok.eq (vVI hN hbd) (ok.ift h (ok.chk (by decide) (ok.some rfl)))))
    have he : m_I_validRow_b1 N [v] 1 = some (.inr (.inl ())) := rfl
    unfold m_I_validRow
    rw [decide_eq_false (by simp), cond_false, loopM_1 (by omega) hb he]; rfl
  have hb : m_I_EncodeKey_b1 N [v] 0 [] = some (.inl (1, keyB v)) := by
    refine ok.val ?_
    unfold m_I_EncodeKey_b1
    refine ok.ift (by simp) (ok.eq h0 ?_)
    unfold keyB numB
    rcases h with ⟨k, n, t⟩ | ⟨k, n1, n2, t⟩ | ⟨k, n, t⟩
    · refine ok.ift k (ok.app (by decide) (ok.chk (by decide) (ok.some ?_)))
      rw [if_pos k]; rfl
    · refine ok.iff (by omega) (ok.ift k (ok.chk (by omega) ?_))
      refine ok.eq (quoM_eq (by omega)) (ok.chk (by omega) (ok.eq (quoM_eq (by omega)) (ok.eq (remM_eq (by omega)) (ok.chk (by omega) (ok.eq (quoM_eq (by omega)) (ok.eq (remM_eq (by omega)) (ok.chk (by omega) (ok.eq (remM_eq (by omega)) (ok.chk (by omega) (ok.app ⟨by simp, by simp⟩ (ok.chk (by decide) (ok.some ?_))))))))))))
      rw [if_neg (by omega), if_pos k]; rfl
    · have hs := t.1
      have hl := bytesL_len v.text
      refine ok.iff (by omega) (ok.iff (by omega) (ok.app ⟨by simp, by simp⟩ (ok.app ⟨?_, ?_⟩ (ok.app ⟨?_, ?_⟩ (ok.chk (by decide) (ok.some ?_))))))
      · simp only [List.nil_append, List.length_cons, List.length_nil, hl]; omega
      · simp only [List.nil_append, List.length_cons, List.length_nil, hl]; omega
      · simp only [List.nil_append, List.length_append, List.length_cons, List.length_nil, hl]; omega
      · simp only [List.nil_append, List.length_append, List.length_cons, List.length_nil, hl]; omega
      · rw [if_neg (by omega), if_neg (by omega)]; rfl
  have he : m_I_EncodeKey_b1 N [v] 1 (keyB v) = some (.inr (keyB v)) := by
    unfold m_I_EncodeKey_b1
    rw [decide_eq_false (by simp)]; rfl
  unfold m_I_EncodeKey
  rw [hrow]
  show (loopM _ N _).bind _ = _
  rw [loopM_1 (s' := ((1 : Int), keyB v)) (by omega) hb he]; rfl
end
end V
end Go.Proofs.Ytlpbgmahegoidaa
