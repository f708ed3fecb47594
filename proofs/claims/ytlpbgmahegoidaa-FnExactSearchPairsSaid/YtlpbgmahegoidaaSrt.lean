/- slices.Sort at ints, out of the shelf's contract. No condition. -/
import Derived.Test.YtlpbgmahegoidaaShfP
import Derived.Test.YtlpbgmahegoidaaGenB
import Derived.Test.YtlpbgmahegoidaaSrtP
namespace Go.Proofs.Ytlpbgmahegoidaa
namespace V
open Go.Sort
set_option linter.unusedVariables false
set_option linter.unusedSimpArgs false
theorem eL_int : ∀ xs : List Int, eL xs = xs.map fun i => Tr.v (.int .i64 i)
  | [] => rfl
  | x :: xs => by
    have := eL_int xs
    show _ :: eL xs = _
    rw [this]; rfl
theorem sortP_nil : sortP [] = [] := List.eq_nil_of_length_eq_zero (sortP_len [])
def m_slices_Sort_int (N : Nat) (p_x : List Int) : Option (List Int) := if p_x.length < 4611686018427387904 then some (sortP p_x) else none
theorem len_slices_Sort_int (N : Nat) (p_x r : List Int) (h : m_slices_Sort_int N p_x = some r) : r.length = p_x.length := by
  unfold m_slices_Sort_int at h
  split at h
  · cases h; exact sortP_len _
  · cases h
theorem putCells_get (off : Nat) (d : Array Int) (c : Array Value) {j : Nat} (h : j < d.size) (hc : off + j < c.size) : (putCells (Value.int .i64) off d c)[off + j]? = some (.int .i64 d[j]) := by
  simp only [putCells, Array.getElem?_mapIdx, Array.getElem?_eq_getElem hc, Option.map_some]
  rw [if_pos ⟨by omega, by omega⟩, show off + j - off = j by omega, getElem!_pos d j h]
theorem w_slices_Sort_int (N : Nat) (p_x r : List Int) (hh0 : m_slices_Sort_int N p_x = some r) : FnX Try.prog 43 [⟨.tr (eL p_x), 3, 1⟩] [.os 0 0 p_x.length] (RE (.tup []) [⟨.tr (eL r), 3, 1⟩]) := by
  have hlen := len_slices_Sort_int N p_x r hh0
  unfold m_slices_Sort_int at hh0
  split at hh0
  case isFalse => cases hh0
  rename_i hbig
  obtain rfl := (Option.some.inj hh0).symm
  intro s U av S hV ha
  obtain ⟨hal, har⟩ := ha
  obtain ⟨y, rfl⟩ : ∃ y, av = [y] := List.length_eq_one_iff.1 hal
  have hy := har 0 _ y rfl rfl
  have hsl : s.L.length = 1 := by rw [S.len]; rfl
  obtain ⟨x, hx⟩ : ∃ x, s.L[0]? = some x := ⟨s.L[0], List.getElem?_eq_getElem (by omega)⟩
  have hown := S.own 0 _ x rfl hx
  have cells : ((⟨.tr (eL p_x), 3, 1⟩ : Ob).cells) = p_x.map fun i => AV.t (.v (.int .i64 i)) := by
    simp [Ob.cells, Cs.list, eL_int]
  by_cases h0 : p_x.length = 0
  · obtain rfl := List.eq_nil_of_length_eq_zero h0
    have hz : ∃ p cap, y = .slice p 0 cap := by
      cases hy with
      | os _ _ _ cap L _ _ _ _ => exact ⟨_, _, rfl⟩
      | osn => exact ⟨_, _, rfl⟩
      | osz => exact ⟨_, _, rfl⟩
      | osd _ _ _ _ _ hM => rw [hx] at hM; cases hM; exact hown.elim
    obtain ⟨p, cap, rfl⟩ := hz
    refine (Any.slices_Sort_int_none Try.lays189 p cap s.w).mono ?_
    rintro e w' ⟨rfl, rfl⟩
    rw [sortP_nil]
    exact ⟨_, _, _, s.L, U, rfl, ⟨rfl, rfl⟩, .tup [] [] rfl (fun j c y h => by simp at h), S⟩
  · generalize hn0 : p_x.length = n0 at hy
    cases hy with
    | osn => exact (h0 hn0).elim
    | osz => exact (h0 hn0).elim
    | osd _ _ _ _ _ hM => rw [hx] at hM; cases hM; exact hown.elim
    | os _ _ _ cap L hM hcap hn hcm =>
      rw [hx] at hM; cases hM
      subst hn0
      obtain ⟨hk, hle, cur, hcur, hsz, hr⟩ := hown
      rw [cells] at hle hr
      simp only [List.length_map] at hle
      have hget : ∀ j (h : j < p_x.length), cur[L.off + j]? = some (.int .i64 p_x[j]) := fun j h => by
        obtain ⟨z, hz, _, hR⟩ := hr j (.t (.v (.int .i64 p_x[j]))) (by rw [List.getElem?_map, List.getElem?_eq_getElem h]; rfl)
        rw [hz, Rel.int hR]
      have hlt := S.lt _ ⟨0, L, hx, rfl⟩
      have H : Holds (Value.int .i64) s.w L.blk L.off p_x.toArray := by
        intro j hj
        simp only [List.size_toArray] at hj
        refine ⟨?_, ?_⟩
        · rw [cell_of_row s.w _ _ cur _ _ hcur, hget j hj]
          rw [getElem!_pos p_x.toArray j (by simpa using hj)]; simp
        · simp [World.frozen?, hcur]
      have main := Any.slices_Sort_int Try.lays189 L.blk L.off cap p_x s.w H hlt hbig
      refine main.mono ?_
      rintro e w' ⟨rfl, n, os, rfl⟩
      have hs : (sortP p_x).length = p_x.length := sortP_len p_x
      have hheap : (putRow (Value.int .i64) (Go.Sort.ahead s.w n) L.blk L.off (sortP p_x).toArray).heap[L.blk]? = some (.cells (putCells (Value.int .i64) L.off (sortP p_x).toArray cur) 3 (0, 0)) := by
        show (s.w.heap.modify L.blk (onCells _))[L.blk]? = _
        rw [Array.getElem?_modify, if_pos rfl, hcur]; rfl
      have hb : BelowX [L.blk] s.w (grow (putRow (Value.int .i64) (Go.Sort.ahead s.w n) L.blk L.off (sortP p_x).toArray) os) := by
        refine ⟨rfl, rfl, rfl, by simp, fun k hk hkx => ?_⟩
        rw [heap_grow_old _ _ (by simpa using hk)]
        show (s.w.heap.modify L.blk (onCells _))[k]? = _
        rw [Array.getElem?_modify, if_neg (fun e => hkx (by simp [e]))]
      obtain ⟨S', _⟩ := S.turn (b := 0) (L := L) (ob' := ⟨.tr (eL (sortP p_x)), 3, 1⟩) hx hb (by simp) (by
        have cells' : ((⟨.tr (eL (sortP p_x)), 3, 1⟩ : Ob).cells) = (sortP p_x).map fun i => AV.t (.v (.int .i64 i)) := by
          simp [Ob.cells, Cs.list, eL_int]
        refine ⟨hk, by rw [cells', List.length_map]; omega, putCells (Value.int .i64) L.off (sortP p_x).toArray cur, ?_, ?_, fun j c hc => ?_⟩
        · rw [heap_grow_old _ _ (by simpa using hlt)]; exact hheap
        · simp [putCells, hsz]
        · rw [cells', List.getElem?_map] at hc
          have hj : j < (sortP p_x).length := by
            rcases Nat.lt_or_ge j (sortP p_x).length with h | h
            · exact h
            · rw [List.getElem?_eq_none h] at hc; cases hc
          rw [List.getElem?_eq_getElem hj] at hc
          cases hc
          refine ⟨_, putCells_get L.off (sortP p_x).toArray cur (by simpa using hj) (by omega), rfl, ?_⟩
          exact .t _ _ (.v _ rfl))
      exact ⟨_, _, _, s.L, U, rfl, ⟨rfl, rfl⟩, .tup [] [] rfl (fun j c y h => by simp at h), S'⟩
end V
end Go.Proofs.Ytlpbgmahegoidaa
