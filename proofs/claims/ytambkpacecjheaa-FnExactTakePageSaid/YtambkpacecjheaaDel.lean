/- slices.Delete at ints, out of the shelf's contract. No condition. -/
import Derived.Test.YtambkpacecjheaaShfD
import Derived.Test.YtambkpacecjheaaSrt
namespace Go.Proofs.Ytambkpacecjheaa
namespace V
open Go.Sort
set_option linter.unusedVariables false
set_option linter.unusedSimpArgs false
def m_slices_Delete_int (N : Nat) (p_s : List Int) (p_i p_j : Int) : Option (List Int) := if 0 ≤ p_i ∧ p_i ≤ p_j ∧ p_j ≤ p_s.length then some (p_s.take p_i.toNat ++ p_s.drop p_j.toNat) else none
theorem cells_int (xs : List Int) (t : TypeId) (k : Nat) : ((⟨.tr (eL xs), t, k⟩ : Ob).cells) = xs.map fun i => AV.t (.v (.int .i64 i)) := by
  simp [Ob.cells, Cs.list, eL_int]
theorem w_slices_Delete_int (N : Nat) (p_s : List Int) (p_i p_j : Int) (r : List Int) (hh0 : m_slices_Delete_int N p_s p_i p_j = some r) : FnX Try.prog 56 [⟨.tr (eL p_s), 3, 1⟩] [.os 0 0 p_s.length, iA p_i, iA p_j] (RE (.os 0 0 r.length) [⟨.tr (eL r), 3, 1⟩]) := by
  unfold m_slices_Delete_int at hh0
  split at hh0
  case isFalse => cases hh0
  rename_i hij
  obtain rfl := (Option.some.inj hh0).symm
  obtain ⟨i, rfl⟩ := Int.eq_ofNat_of_zero_le hij.1
  obtain ⟨j, rfl⟩ := Int.eq_ofNat_of_zero_le (show 0 ≤ p_j by omega)
  simp only [Int.toNat_natCast]
  have hlen : (p_s.take i ++ p_s.drop j).length = p_s.length - (j - i) := by simp; omega
  intro s U av S hV ha
  obtain ⟨hal, har⟩ := ha
  obtain ⟨y, y1, y2, rfl⟩ : ∃ y y1 y2, av = [y, y1, y2] := by
    match av, hal with
    | [y, y1, y2], _ => exact ⟨y, y1, y2, rfl⟩
  have hy := har 0 _ y rfl rfl
  obtain rfl := Rel.int (har 1 _ y1 rfl rfl)
  obtain rfl := Rel.int (har 2 _ y2 rfl rfl)
  have hsl : s.L.length = 1 := by rw [S.len]; rfl
  obtain ⟨x, hx⟩ : ∃ x, s.L[0]? = some x := ⟨s.L[0], List.getElem?_eq_getElem (by omega)⟩
  have hown := S.own 0 _ x rfl hx
  have cells : ((⟨.tr (eL p_s), 3, 1⟩ : Ob).cells) = p_s.map fun i => AV.t (.v (.int .i64 i)) := cells_int _ _ _
  by_cases h0 : p_s.length = 0
  · obtain rfl := List.eq_nil_of_length_eq_zero h0
    simp only [List.length_nil] at hij
    obtain rfl : i = 0 := by omega
    obtain rfl : j = 0 := by omega
    have hz : ∃ p cap, y = .slice p 0 cap := by
      cases hy with
      | os _ _ _ cap L _ _ _ _ => exact ⟨_, _, rfl⟩
      | osn => exact ⟨_, _, rfl⟩
      | osz => exact ⟨_, _, rfl⟩
      | osd _ _ _ _ _ hM => rw [hx] at hM; cases hM; exact hown.elim
    obtain ⟨p, cap, rfl⟩ := hz
    refine (Any.slices_Delete_int_empty Try.laysNm223 p cap s.w).mono ?_
    rintro e w' ⟨rfl, rfl⟩
    exact ⟨_, _, _, s.L, U, rfl, ⟨rfl, rfl⟩, hy, S⟩
  · generalize hn0 : p_s.length = n0 at hy
    cases hy with
    | osn => exact (h0 hn0).elim
    | osz => exact (h0 hn0).elim
    | osd _ _ _ _ _ hM => rw [hx] at hM; cases hM; exact hown.elim
    | os _ _ _ cap L hM hcap hn hcm =>
      rw [hx] at hM; cases hM
      subst hn0
      obtain ⟨hk, hle, cur, hcur, hsz, hr⟩ := hown
      rw [cells] at hle hr
      simp only [List.length_map] at hle
      have hget : ∀ j (h : j < p_s.length), cur[L.off + j]? = some (.int .i64 p_s[j]) := fun j h => by
        obtain ⟨z, hz, _, hR⟩ := hr j (.t (.v (.int .i64 p_s[j]))) (by rw [List.getElem?_map, List.getElem?_eq_getElem h]; rfl)
        rw [hz, Rel.int hR]
      have hlt := S.lt _ ⟨0, L, hx, rfl⟩
      have H : Holds (Value.int .i64) s.w L.blk L.off p_s.toArray := by
        intro j hj
        simp only [List.size_toArray] at hj
        refine ⟨?_, ?_⟩
        · rw [cell_of_row s.w _ _ cur _ _ hcur, hget j hj]
          rw [getElem!_pos p_s.toArray j (by simpa using hj)]; simp
        · simp [World.frozen?, hcur]
      have main := Any.slices_Delete_int Try.laysNm223 L.blk L.off cap i j p_s s.w H hn hcm (by omega) (by omega)
      refine main.mono ?_
      rintro e w' ⟨rfl, q, rfl⟩
      have hzs : (p_s.take i ++ p_s.drop j ++ List.replicate (j - i) 0).length = p_s.length := by simp; omega
      have hheap : (putRow (Value.int .i64) (Go.Sort.ahead s.w q) L.blk L.off (p_s.take i ++ p_s.drop j ++ List.replicate (j - i) 0).toArray).heap[L.blk]? = some (.cells (putCells (Value.int .i64) L.off (p_s.take i ++ p_s.drop j ++ List.replicate (j - i) 0).toArray cur) 3 (0, 0)) := by
        show (s.w.heap.modify L.blk (onCells _))[L.blk]? = _
        rw [Array.getElem?_modify, if_pos rfl, hcur]; rfl
      have hb : BelowX [L.blk] s.w (putRow (Value.int .i64) (Go.Sort.ahead s.w q) L.blk L.off (p_s.take i ++ p_s.drop j ++ List.replicate (j - i) 0).toArray) := by
        refine ⟨rfl, rfl, rfl, by simp, fun k hk hkx => ?_⟩
        show (s.w.heap.modify L.blk (onCells _))[k]? = _
        rw [Array.getElem?_modify, if_neg (fun e => hkx (by simp [e]))]
      obtain ⟨S', _⟩ := S.turn (b := 0) (L := L) (ob' := ⟨.tr (eL (p_s.take i ++ p_s.drop j)), 3, 1⟩) hx hb (by simp) (by
        have cells' : ((⟨.tr (eL (p_s.take i ++ p_s.drop j)), 3, 1⟩ : Ob).cells) = (p_s.take i ++ p_s.drop j).map fun i => AV.t (.v (.int .i64 i)) := cells_int _ _ _
        refine ⟨hk, by rw [cells', List.length_map]; omega, putCells (Value.int .i64) L.off (p_s.take i ++ p_s.drop j ++ List.replicate (j - i) 0).toArray cur, hheap, ?_, fun m c hc => ?_⟩
        · simp [putCells, hsz]
        · rw [cells', List.getElem?_map] at hc
          have hm : m < (p_s.take i ++ p_s.drop j).length := by
            rcases Nat.lt_or_ge m (p_s.take i ++ p_s.drop j).length with h | h
            · exact h
            · rw [List.getElem?_eq_none h] at hc; cases hc
          rw [List.getElem?_eq_getElem hm] at hc
          cases hc
          have e : (p_s.take i ++ p_s.drop j ++ List.replicate (j - i) 0).toArray[m]'(by rw [List.size_toArray]; omega) = (p_s.take i ++ p_s.drop j)[m] := by
            rw [List.getElem_toArray, List.getElem_append_left hm]
          have h2 := putCells_get L.off (p_s.take i ++ p_s.drop j ++ List.replicate (j - i) 0).toArray cur (j := m) (by rw [List.size_toArray]; omega) (by omega)
          rw [e] at h2
          exact ⟨_, h2, rfl, .t _ _ (.v _ rfl)⟩)
      refine ⟨_, _, _, s.L, U, rfl, ⟨rfl, rfl⟩, ?_, S'⟩
      rw [hlen]
      exact .os _ _ _ _ L hx hcap (by omega) hcm
end V
end Go.Proofs.Ytambkpacecjheaa
