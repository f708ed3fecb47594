/- The search of pairs, in plain words. No condition. -/
import Derived.Test.YtlpbgmahegoidaaPlVal
import Derived.Test.YtlpbgmahegoidaaPlSort
namespace Go.Proofs.Ytlpbgmahegoidaa
namespace V
set_option linter.unusedVariables false
set_option linter.unusedSimpArgs false
set_option maxHeartbeats 1000000
/-- A key lies in a range. -/
def btwK (a b : ByteArray) (p : I_Pair) : Bool := !Op.bytesLess p.key.toList a.toList && !Op.bytesLess b.toList p.key.toList
noncomputable def serP (l : List I_Pair) (lo hi : I_Value) : List Int := if l.length ≤ 10 ∧ vV lo ∧ vV hi then sortP ((l.filter (btwK (keyP lo) (keyP hi))).map I_Pair.row) else []
theorem serP_len (l : List I_Pair) (lo hi : I_Value) : (serP l lo hi).length ≤ 10 := by
  unfold serP; split
  · rename_i h
    have := filt_len (btwK (keyP lo) (keyP hi)) I_Pair.row l
    rw [sortP_len]; have := h.1; omega
  · simp
section
variable {N : Nat} (hN : 100000000 ≤ N)
include hN
theorem serI {l : List I_Pair} {lo hi : I_Value} (h1 : lo.text.size ≤ 5000000) (h2 : hi.text.size ≤ 5000000) : m_I_SearchPairs N l lo hi = some (serP l lo hi) := by
  refine ok.val ?_
  unfold m_I_SearchPairs
  refine ok.ite (fun hc => ok.some ?_) fun hl => ok.eq (vVI hN h1) (ok.ite (fun v1 => ok.eq (vVI hN h2) (ok.ite (fun v2 => ?_) fun v2 => ok.some ?_)) fun v1 => ok.some ?_)
  · unfold serP; rw [if_neg (by omega)]
  · refine ok.eq (keyI hN v1 h1) (ok.eq (keyI hN v2 h2) ?_)
    refine ok.call (ok.each l.length (fun i st => st = ((i : Int), ((l.take i).filter (btwK (keyP lo) (keyP hi))).map I_Pair.row)) (fun e => e = (l.filter (btwK (keyP lo) (keyP hi))).map I_Pair.row) ?_ ?_ N 0 _ (Nat.zero_le _) rfl (by omega)) ?_
    · rintro i _ hi' rfl
      have hf := filt_len (btwK (keyP lo) (keyP hi)) I_Pair.row (l.take i)
      have hfl : (l.take i).length ≤ 10 := by simp; omega
      have hstep := filt_take (btwK (keyP lo) (keyP hi)) I_Pair.row hi'
      have hu : btwK (keyP lo) (keyP hi) l[i] = (!Op.bytesLess l[i].key.toList (keyP lo).toList && !Op.bytesLess (keyP hi).toList l[i].key.toList) := rfl
      unfold m_I_SearchPairs_b1
      dsimp only
      refine ok.ift (by omega) (ok.eq (ixI_nat hi') (ok.cond (fun c => ok.chk (by omega) (ok.some ?_)) fun c => ok.cond (fun c2 => ok.chk (by omega) (ok.some ?_)) fun c2 => ok.app ⟨by simp only [List.length_cons, List.length_nil]; omega, by simp only [List.length_cons, List.length_nil]; omega⟩ (ok.chk (by omega) (ok.some ?_))))
      · show (_, _) = (_, _)
        rw [hstep, if_neg (by rw [hu, c]; simp), List.append_nil]; rfl
      · show (_, _) = (_, _)
        rw [hstep, if_neg (by rw [hu, c2]; simp), List.append_nil]; rfl
      · show (_, _) = (_, _)
        rw [hstep, if_pos (by rw [hu, c, c2]; rfl)]; rfl
    · rintro _ rfl
      unfold m_I_SearchPairs_b1
      refine ok.iff (by dsimp only; omega) (ok.some ?_)
      show _ = _
      rw [List.take_length]
    · rintro _ rfl
      have hf := filt_len (btwK (keyP lo) (keyP hi)) I_Pair.row l
      unfold m_I_SearchPairs_k1 m_slices_Sort_int
      rw [if_pos (by omega)]
      refine ok.bs (ok.some ?_)
      unfold serP; rw [if_pos ⟨by omega, v1, v2⟩]
  · unfold serP; rw [if_neg fun h => v2 h.2.2]
  · unfold serP; rw [if_neg fun h => v1 h.2.1]
theorem serS {l : List I_Pair} {lo hi : I_Value} (h1 : lo.text.size ≤ 5000000) (h2 : hi.text.size ≤ 5000000) : m_S_SearchPairs N l lo hi = some (serP l lo hi) := by
  refine ok.val ?_
  unfold m_S_SearchPairs
  refine ok.ite (fun hc => ok.some ?_) fun hl => ok.eq (vVS hN h1) (ok.ite (fun v1 => ok.eq (vVS hN h2) (ok.ite (fun v2 => ?_) fun v2 => ok.some ?_)) fun v1 => ok.some ?_)
  · unfold serP; rw [if_neg (by omega)]
  · refine ok.eq (keyS hN v1) (ok.eq (keyS hN v2) ?_)
    refine ok.call (ok.each l.length (fun i st => st = ((i : Int), ((l.take i).filter (btwK (keyP lo) (keyP hi))).map I_Pair.row)) (fun e => e = (l.filter (btwK (keyP lo) (keyP hi))).map I_Pair.row) ?_ ?_ N 0 _ (Nat.zero_le _) rfl (by omega)) ?_
    · rintro i _ hi' rfl
      have hf := filt_len (btwK (keyP lo) (keyP hi)) I_Pair.row (l.take i)
      have hfl : (l.take i).length ≤ 10 := by simp; omega
      have hstep := filt_take (btwK (keyP lo) (keyP hi)) I_Pair.row hi'
      have hu : btwK (keyP lo) (keyP hi) l[i] = (!Op.bytesLess l[i].key.toList (keyP lo).toList && !Op.bytesLess (keyP hi).toList l[i].key.toList) := rfl
      unfold m_S_SearchPairs_b1
      dsimp only
      refine ok.ift (by omega) (ok.eq (ixI_nat hi') (ok.cond (fun c => ok.chk (by omega) (ok.some ?_)) fun c => ok.eq (ixI_nat hi') (ok.cond (fun c2 => ok.chk (by omega) (ok.some ?_)) fun c2 => ok.eq (ixI_nat hi') (ok.app ⟨by simp only [List.length_cons, List.length_nil]; omega, by simp only [List.length_cons, List.length_nil]; omega⟩ (ok.chk (by omega) (ok.some ?_))))))
      · show (_, _) = (_, _)
        rw [hstep, if_neg (by rw [hu, c]; simp), List.append_nil]; rfl
      · show (_, _) = (_, _)
        rw [hstep, if_neg (by rw [hu, c2]; simp), List.append_nil]; rfl
      · show (_, _) = (_, _)
        rw [hstep, if_pos (by rw [hu, c, c2]; rfl)]; rfl
    · rintro _ rfl
      unfold m_S_SearchPairs_b1
      refine ok.iff (by dsimp only; omega) (ok.some ?_)
      show _ = _
      rw [List.take_length]
    · rintro _ rfl
      have hf := filt_len (btwK (keyP lo) (keyP hi)) I_Pair.row l
      unfold m_S_SearchPairs_k1
      refine ok.eq (sortedS hN (by omega)) (ok.some ?_)
      unfold serP; rw [if_pos ⟨by omega, v1, v2⟩]
  · unfold serP; rw [if_neg fun h => v2 h.2.2]
  · unfold serP; rw [if_neg fun h => v1 h.2.1]
end
end V
end Go.Proofs.Ytlpbgmahegoidaa
