/- What the rows need, part 3. No condition. -/
import Derived.Shelf.Strconv.Itoa3
import Derived.Test.YtkjnnifnmoekjaaDoorProg
import Derived.Test.YtkjnnifnmoekjaaDoorQScB
namespace Go.Proofs.YtkjnnifnmoekjaaDoor
namespace V
open Enc (enc)
set_option linter.unusedVariables false
set_option linter.unusedSimpArgs false
set_option maxHeartbeats 4000000
set_option maxRecDepth 100000
open Go.RowKit
/-- slices.Delete at impl.Column. -/
theorem del_raw_Column (w : World) (B n cap i j : Nat) (cur : Array Value) (hcur : w.heap[B]? = some (.cells cur 82 (0, 0))) (hsz : cur.size = cap * 4) (hn : n ≤ cap) (hcm : cap ≤ 9223372036854775807) (hij : i ≤ j) (hj : j ≤ n) (hone : ∀ q v, q < n * 4 → cur[q]? = some v → v.oneCell' = true) :
    Calls Tryd.prog 73 [.slice (some ⟨B, 0, none⟩) n cap, .int .i64 (i : Int), .int .i64 (j : Int)].toArray w fun e w' => e = .returned (.slice (some ⟨B, 0, none⟩) (n - (j - i)) cap) ∧ BelowX [B] w w' ∧ ∃ new, w'.heap[B]? = some (.cells new 82 (0, 0)) ∧ new.size = cur.size ∧ ∀ q, q < (n - (j - i)) * 4 → new[q]? = if q < i * 4 then cur[q]? else cur[q + (j - i) * 4]? := by
  have Z : CE Tryd.prog 82 4 40 := inferInstance
  obtain ⟨i0, z, hi0, hz, hk, hby, hzk⟩ := Z.ex
  have hwr : ∀ m : Nat, m ≤ 9223372036854775807 → (-9223372036854775808 : Int) ≤ (m : Int) ∧ (m : Int) ≤ 9223372036854775807 := fun m h => by omega
  refine calls Tryd.func73 rfl rfl ?_
  refine CW.seq ?_
  refine CW.region ?_
  refine LW.op rfl (R.assign) ?_
  refine LW.nil ?_
  refine thn_n ?_
  refine CW.seq ?_
  refine CW.region ?_
  refine LW.op rfl (R.moveS rfl) ?_
  refine LW.op rfl (R.moveI rfl) ?_
  refine LW.op rfl (R.moveI rfl) ?_
  refine LW.op rfl (R.moveS rfl) ?_
  refine LW.op rfl (R.lenSl rfl) ?_
  refine LW.op rfl (R.slice3 (l := i) (h := j) (m := n) rfl rfl rfl rfl hij hj hn) ?_
  refine LW.nil ?_
  refine thn_n ?_
  refine CW.seq ?_
  refine CW.seq ?_
  refine CW.region ?_
  refine LW.op rfl (R.moveI rfl) ?_
  refine LW.op rfl (R.moveI rfl) ?_
  refine LW.op rfl (R.eql rfl rfl) ?_
  refine LW.nil ?_
  refine thn_n ?_
  by_cases hq : i = j
  · refine CW.cond_true rfl (decide_eq_true (by omega)) ?_
    refine CW.seq ?_
    refine CW.region ?_
    refine LW.op rfl (R.moveS rfl) ?_
    refine LW.op rfl (R.assignS rfl) ?_
    refine LW.nil ?_
    refine thn_n ?_
    refine CW.ret ?_
    refine thn_r ?_
    refine Fin.ret1 rfl (.inl rfl) ⟨by show Ending.returned (Value.slice (some ⟨B, 0, none⟩) n cap) = _; rw [show n - (j - i) = n by omega], BelowX.refl _ _, cur, hcur, rfl, fun q hq' => ?_⟩
    split
    · rfl
    · rw [show (j - i) * 4 = 0 by rw [show j - i = 0 by omega, Nat.zero_mul], Nat.add_zero]
  refine CW.cond_false rfl (decide_eq_false (by omega)) ?_
  refine CW.skip ?_
  refine thn_n ?_
  refine CW.seq ?_
  refine CW.region ?_
  refine LW.op rfl (R.moveS rfl) ?_
  refine LW.op rfl (R.lenSl rfl) ?_
  refine LW.op rfl (R.assignI rfl) ?_
  refine LW.nil ?_
  refine thn_n ?_
  refine CW.seq ?_
  refine CW.anyR 6 [0, 1, 2, 3, 4, 5] rfl (by kernel_rfl) ?_
  refine SW.op rfl (fun w => R.moveS rfl) ?_
  refine SW.op rfl (fun w => R.moveI rfl) ?_
  refine SW.op rfl (fun w => R.slH (h := i) rfl rfl (by omega)) ?_
  refine SW.op rfl (fun w => R.moveS rfl) ?_
  refine SW.op rfl (fun w => R.moveI rfl) ?_
  refine SW.op rfl (fun w => R.slL (l := j) rfl rfl hj) ?_
  refine SW.nil ?_
  have hnl : ((cur.toList.drop (j * 4)).take ((n - j) * 4)).length = (n - j) * i0.size := by simp [hk]; omega
  have hsrc : ∀ q u, ((cur.toList.drop (j * 4)).take ((n - j) * 4))[q]? = some u → ({ w with drawn := w.drawn + 1 } : World).cell? ((⟨B, so cap 0 j 4, none⟩ : Addr).add q) = some u := by
    intro q u hq
    rw [List.getElem?_take] at hq
    split at hq
    · rename_i h1
      rw [List.getElem?_drop] at hq
      rw [Rd.addr_add, so_ne (by omega), cell_of_row ({ w with drawn := w.drawn + 1 } : World) _ _ cur 82 (0, 0) hcur, Nat.zero_add]
      simpa using hq
    · cases hq
  have hn1 : ∀ u ∈ (cur.toList.drop (j * 4)).take ((n - j) * 4), u.oneCell' = true := by
    intro u hu
    obtain ⟨q, hq⟩ := mem_get hu
    rw [List.getElem?_take] at hq
    split at hq
    · rename_i h1
      rw [List.getElem?_drop] at hq
      exact hone (j * 4 + q) u (by omega) (by simpa using hq)
    · cases hq
  have hrun := run_append_room (P := Tryd.prog) { w with drawn := w.drawn + 1 } 23 23 82 i0 (inferInstance : CSl Tryd.prog 23 82).u hi0 B i cap cur hcur ⟨B, so cap 0 j 4, none⟩ (n - j) (cap - j) _ hnl hsrc hn1 (by omega) (by rw [hnl, hk]; omega)
  rw [hk] at hrun
  refine LW.op rfl (R.apd rfl rfl hrun) ?_
  refine LW.op rfl (R.assignS rfl) ?_
  refine LW.nil ?_
  refine thn_n ?_
  clear hrun
  generalize hcs : (cur.toList.drop (j * 4)).take ((n - j) * 4) = cs at *
  rw [hk] at hnl
  have hg1 := putR_get (cur := cur) (o := i * 4) (cs := cs) (by rw [hnl]; omega)
  have hs1 := putR_size (cur := cur) (o := i * 4) (cs := cs) (by rw [hnl]; omega)
  have hW1 : (({ w with drawn := w.drawn + 1 } : World).setRow B (putR cur (i * 4) cs)).heap[B]? = some (.cells (putR cur (i * 4) cs) 82 (0, 0)) := setRow_heap _ _ _ _ _ _ hcur
  show CW Tryd.prog _ _ _ _ (({ w with drawn := w.drawn + 1 } : World).setRow B (putR cur (i * 4) cs))
  generalize hcur1 : putR cur (i * 4) cs = cur1 at *
  have hv : ∀ w, (zeroValue 82).run Tryd.prog w = .ok z w := fun w => by simp [zeroValue, typeInfo, hi0, hz]
  have hzc : ∀ v ∈ z.cells.toList, v.oneCell' = true := by
    have h2 := (hv w).symm.trans ((inferInstance : CZ Tryd.prog 82 _).run w)
    injection h2 with h2
    subst h2
    decide
  obtain ⟨zs, hzs⟩ : ∃ zs, (Builtin.zeroCells z.cells (n - (i + (n - j)))).toList = zs := ⟨_, rfl⟩
  have hzl : zs.length = (n - (i + (n - j))) * 4 := by rw [← hzs, Array.length_toList, size_zeroCells, hzk]
  have hz1 : ∀ v ∈ zs, v.oneCell' = true := by rw [← hzs]; exact zeros_one (by omega) hzc _
  have hso : so cap 0 (i + (n - j)) 4 = (i + (n - j)) * 4 := by rw [so_ne (by omega), Nat.zero_add]
  have hclr : ∀ ty, _ := fun ty => run_clear_row (P := Tryd.prog) (({ w with drawn := w.drawn + 1 } : World).setRow B cur1) 23 82 ty z (inferInstance : CSl Tryd.prog 23 82).u hv B (so cap 0 (i + (n - j)) 4) (n - (i + (n - j))) (cap - (i + (n - j))) (by omega) zs hzs cur1 hW1 (by rw [hso, hzl, hs1, hsz]; omega) hz1
  refine CW.seq ?_
  refine CW.region ?_
  refine LW.op rfl (R.moveS rfl) ?_
  refine LW.op rfl (R.moveS rfl) ?_
  refine LW.op rfl (R.lenSl rfl) ?_
  refine LW.op rfl (R.moveI rfl) ?_
  refine LW.op rfl (R.slLH (l := i + (n - j)) (h := n) rfl rfl rfl (by omega) hn) ?_
  refine LW.opN (run_clr rfl (hclr _)) ?_
  refine LW.nil ?_
  refine thn_n ?_
  rw [hso]
  refine CW.seq ?_
  refine CW.region ?_
  refine LW.op rfl (R.moveS rfl) ?_
  refine LW.op rfl (R.assignS rfl) ?_
  refine LW.nil ?_
  refine thn_n ?_
  refine CW.ret ?_
  have hg2 := putR_get (cur := cur1) (o := (i + (n - j)) * 4) (cs := zs) (by rw [hzl, hs1, hsz]; omega)
  have hs2 := putR_size (cur := cur1) (o := (i + (n - j)) * 4) (cs := zs) (by rw [hzl, hs1, hsz]; omega)
  refine Fin.ret1 rfl (.inl rfl) ⟨by show Ending.returned (Value.slice (some ⟨B, 0, none⟩) (i + (n - j)) cap) = _; rw [show n - (j - i) = i + (n - j) by omega], ⟨rfl, rfl, rfl, by simp, fun q hq hx => ?_⟩, _, setRow_heap _ _ _ _ _ _ hW1, by rw [hs2, hs1], fun q hq => ?_⟩
  · rw [setRow_other _ _ _ _ (by simpa using hx), setRow_other _ _ _ _ (by simpa using hx)]
  · rw [hg2, if_pos (by rw [show i + (n - j) = n - (j - i) by omega]; exact hq), hg1, hnl]
    split
    · rfl
    · rename_i h1
      rw [if_pos (by omega), ← hcs, List.getElem?_take, if_pos (by omega), List.getElem?_drop, Array.getElem?_toList]
      congr 1
      have : j * 4 = i * 4 + (j - i) * 4 := by rw [← Nat.add_mul]; congr 1; omega
      omega
/-- slices.Insert at impl.Column, behind all elements. -/
theorem ins_end_Column (w w' : World) (base : Option Addr) (i cap : Nat) (va : Option Addr) (vc : Nat) (v' : Value) (hr : ∀ ty, (Builtin.append_ #[23, 23] ty #[.slice base i cap, .slice va 1 vc]).run Tryd.prog w = .ok v' w') :
    Calls Tryd.prog 72 [.slice base i cap, .int .i64 (i : Int), .slice va 1 vc].toArray w fun e w'' => e = .returned v' ∧ w'' = w' := by
  refine calls Tryd.func72 rfl rfl ?_
  refine CW.seq ?_
  refine CW.region ?_
  refine LW.op rfl (R.assign) ?_
  refine LW.nil ?_
  refine thn_n ?_
  refine CW.seq ?_
  refine CW.region ?_
  refine LW.op rfl (R.moveS rfl) ?_
  refine LW.op rfl (R.moveI rfl) ?_
  refine LW.op rfl (run_slice (lo := some _) (hi := none) (l := i) (h := i) rfl rfl rfl (Nat.le_refl _)) ?_
  refine LW.nil ?_
  refine thn_n ?_
  refine CW.seq ?_
  refine CW.region ?_
  refine LW.op rfl (R.moveS rfl) ?_
  refine LW.op rfl (R.lenSl rfl) ?_
  refine LW.op rfl (R.assignI rfl) ?_
  refine LW.nil ?_
  refine thn_n ?_
  refine CW.seq ?_
  refine CW.seq ?_
  refine CW.region ?_
  refine LW.op rfl (R.moveI rfl) ?_
  refine LW.op rfl (R.eql rfl rfl) ?_
  refine LW.nil ?_
  refine thn_n ?_
  refine CW.cond_false rfl (decide_eq_false (by omega)) ?_
  refine CW.skip ?_
  refine thn_n ?_
  refine CW.seq ?_
  refine CW.region ?_
  refine LW.op rfl (R.moveS rfl) ?_
  refine LW.op rfl (R.lenSl rfl) ?_
  refine LW.op rfl (R.assignI rfl) ?_
  refine LW.nil ?_
  refine thn_n ?_
  refine CW.seq ?_
  refine CW.seq ?_
  refine CW.region ?_
  refine LW.op rfl (R.moveI rfl) ?_
  refine LW.op rfl (R.moveI rfl) ?_
  refine LW.op rfl (R.eql rfl rfl) ?_
  refine LW.nil ?_
  refine thn_n ?_
  refine CW.cond_true rfl (decide_eq_true rfl) ?_
  refine CW.seq ?_
  refine CW.region ?_
  refine LW.op rfl (R.moveS rfl) ?_
  refine LW.op rfl (R.moveS rfl) ?_
  refine LW.op rfl (R.apd rfl rfl (hr _)) ?_
  refine LW.op rfl R.assign ?_
  refine LW.nil ?_
  refine thn_n ?_
  refine CW.ret ?_
  refine thn_r ?_
  exact Fin.ret1 rfl (.inl rfl) ⟨rfl, rfl⟩
/-- .. where there is no room. -/
theorem ins_grow_Column (w : World) (B n cap i : Nat) (cur : Array Value) (hcur : w.heap[B]? = some (.cells cur 82 (0, 0))) (hsz : cur.size = cap * 4) (hn : n ≤ cap) (hi : i < n) (hroom : cap < n + 1) (hbig : (n + 1) * 40 ≤ 140737488355328) (hone : ∀ q v, q < n * 4 → cur[q]? = some v → v.oneCell' = true)
    (va : Addr) (vc : Nat) (vs : List Value) (hvl : vs.length = 4) (hvs : ∀ j u, vs[j]? = some u → w.cell? (va.add j) = some u) (hv1 : ∀ u ∈ vs, u.oneCell' = true) :
    Calls Tryd.prog 72 [.slice (some ⟨B, 0, none⟩) n cap, .int .i64 (i : Int), .slice (some va) 1 vc].toArray w fun e w' => ∃ G, e = .returned (.slice (some ⟨w.heap.size, 0, none⟩) (n + 1) G) ∧ n + 1 ≤ G ∧ G ≤ maxLen ∧ BelowX [] w w' ∧ ∃ new, w'.heap[w.heap.size]? = some (.cells new 82 (0, 0)) ∧ new.size = G * 4 ∧ w.heap.size < w'.heap.size ∧ ∀ q, q < (n + 1) * 4 → new[q]? = if q < i * 4 then cur[q]? else if q < i * 4 + 4 then vs[q - i * 4]? else cur[q - 4]? := by
  have Z : CE Tryd.prog 82 4 40 := inferInstance
  have Tu : Tryd.prog.underlying 23 = some (.slice 82) := (inferInstance : CSl Tryd.prog 23 82).u
  obtain ⟨i0, z, hi0, hz, hk, hby, hzk⟩ := Z.ex
  have hml : maxLen = 9223372036854775807 := rfl
  have hBw : B < w.heap.size := (Array.getElem?_eq_some_iff.1 hcur).1
  have hol : (cur.toList.take (i * 4)).length = i * i0.size := by simp [hk]; omega
  have hold : (Builtin.firstCells i0.size i (.slice (some ⟨B, 0, none⟩) i cap)).run Tryd.prog w.drew = .ok (cur.toList.take (i * 4)).toArray w.drew :=
    run_firstCells_some w.drew i0.size i ⟨B, 0, none⟩ i cap _ hol (fun j u hu => by
      rw [List.getElem?_take] at hu
      split at hu
      · rw [Rd.addr_add, Nat.zero_add, cell_of_row w.drew _ _ cur 82 (0, 0) hcur]; simpa using hu
      · cases hu)
  have hrz : ∀ tn ty, Tryd.prog.underlying tn = some (.int .i64) → (Builtin.append_ #[23, tn] ty #[.slice (some ⟨B, 0, none⟩) i cap, .int .i64 ((n : Int) + 1 - (i : Int))]).run Tryd.prog w = .ok (.slice (some ⟨w.heap.size, 0, none⟩) (n + 1) (grownCap w (n + 1) cap 82)) (w.drew.alloc (.cells ((cur.toList.take (i * 4)).toArray ++ Builtin.zeroCells z.cells (n + 1 - i) ++ Builtin.zeroCells z.cells (grownCap w (n + 1) cap 82 - (n + 1))) 82)) := fun tn ty htn => by
    have h := Lib.run_append_grow_zeros w 23 tn ty 82 i0 z .i64 .i64 Tu htn hi0 hz (some ⟨B, 0, none⟩) i cap (cur.toList.take (i * 4)) hold (n + 1 - i) (by omega) (by omega) (by omega) (by omega) (by rw [hby]; omega) (by rw [hby, show i + (n + 1 - i) = n + 1 by omega]; exact growslice_fits hroom hbig)
    rw [show i + (n + 1 - i) = n + 1 by omega] at h
    rw [show (n : Int) + 1 - (i : Int) = ((n + 1 - i : Nat) : Int) by omega]
    exact h
  have hGn : n + 1 ≤ grownCap w (n + 1) cap 82 := grownCap_ge w _ _ _
  have hGm : grownCap w (n + 1) cap 82 ≤ maxLen := grownCap_le_maxLen w (n + 1) cap 82 (by omega)
  generalize hG : grownCap w (n + 1) cap 82 = G at *
  have hrs : ((cur.toList.take (i * 4)).toArray ++ Builtin.zeroCells z.cells (n + 1 - i) ++ Builtin.zeroCells z.cells (G - (n + 1))).size = G * 4 := by
    simp only [Array.size_append, List.size_toArray, size_zeroCells, hzk, hol, hk]
    rw [← Nat.add_mul, ← Nat.add_mul]; congr 1; omega
  have hr0 : ∀ q, q < i * 4 → ((cur.toList.take (i * 4)).toArray ++ Builtin.zeroCells z.cells (n + 1 - i) ++ Builtin.zeroCells z.cells (G - (n + 1)))[q]? = cur[q]? := fun q hq => by
    rw [Array.append_assoc, Array.getElem?_append_left (by simp; omega)]
    simp [hq]
  generalize hrow : (cur.toList.take (i * 4)).toArray ++ Builtin.zeroCells z.cells (n + 1 - i) ++ Builtin.zeroCells z.cells (G - (n + 1)) = row at *
  refine calls Tryd.func72 rfl rfl ?_
  refine CW.seq ?_
  refine CW.region ?_
  refine LW.op rfl (R.assign) ?_
  refine LW.nil ?_
  refine thn_n ?_
  refine CW.seq ?_
  refine CW.region ?_
  refine LW.op rfl (R.moveS rfl) ?_
  refine LW.op rfl (R.moveI rfl) ?_
  refine LW.op rfl (R.slL (l := i) rfl rfl (by omega)) ?_
  refine LW.nil ?_
  refine thn_n ?_
  refine CW.seq ?_
  refine CW.region ?_
  refine LW.op rfl (R.moveS rfl) ?_
  refine LW.op rfl (R.lenSl rfl) ?_
  refine LW.op rfl (R.assignI rfl) ?_
  refine LW.nil ?_
  refine thn_n ?_
  refine CW.seq ?_
  refine CW.seq ?_
  refine CW.region ?_
  refine LW.op rfl (R.moveI rfl) ?_
  refine LW.op rfl (R.eql rfl rfl) ?_
  refine LW.nil ?_
  refine thn_n ?_
  refine CW.cond_false rfl (decide_eq_false (by omega)) ?_
  refine CW.skip ?_
  refine thn_n ?_
  refine CW.seq ?_
  refine CW.region ?_
  refine LW.op rfl (R.moveS rfl) ?_
  refine LW.op rfl (R.lenSl rfl) ?_
  refine LW.op rfl (R.assignI rfl) ?_
  refine LW.nil ?_
  refine thn_n ?_
  refine CW.seq ?_
  refine CW.seq ?_
  refine CW.region ?_
  refine LW.op rfl (R.moveI rfl) ?_
  refine LW.op rfl (R.moveI rfl) ?_
  refine LW.op rfl (R.eql rfl rfl) ?_
  refine LW.nil ?_
  refine thn_n ?_
  refine CW.cond_false rfl (decide_eq_false (by omega)) ?_
  refine CW.skip ?_
  refine thn_n ?_
  refine CW.seq ?_
  refine CW.seq ?_
  refine CW.region ?_
  refine LW.op rfl (R.moveI rfl) ?_
  refine LW.op rfl (R.moveI rfl) ?_
  refine LW.op rfl (R.add rfl rfl (by omega)) ?_
  refine LW.op rfl (R.moveS rfl) ?_
  refine LW.op rfl (R.capSl rfl) ?_
  refine LW.op rfl (R.gtr rfl rfl) ?_
  refine LW.nil ?_
  refine thn_n ?_
  refine CW.cond_true rfl (decide_eq_true (by omega)) ?_
  refine CW.seq ?_
  refine CW.region ?_
  refine LW.op rfl (R.moveS rfl) ?_
  refine LW.op rfl (R.moveI rfl) ?_
  refine LW.op rfl (R.slH (h := i) rfl rfl (by omega)) ?_
  refine LW.op rfl (R.moveI rfl) ?_
  refine LW.op rfl (R.moveI rfl) ?_
  refine LW.op rfl (R.add rfl rfl (by omega)) ?_
  refine LW.op rfl (R.moveI rfl) ?_
  refine LW.op rfl (R.sub rfl rfl (by omega)) ?_
  refine LW.op rfl (R.apd rfl rfl (hrz _ _ (inferInstance : CInU Tryd.prog _).u)) ?_
  refine LW.op rfl (R.assignS rfl) ?_
  refine LW.nil ?_
  refine thn_n ?_
  have hW1 : (w.drew.alloc (.cells row 82)).heap[w.heap.size]? = some (.cells row 82 (0, 0)) := heap_alloc_new w.drew _
  have hol1 : ∀ B', B' < w.heap.size → (w.drew.alloc (.cells row 82)).heap[B']? = w.heap[B']? := fun B' h => by
    exact heap_alloc_old w.drew _ h
  have hw1s : (w.drew.alloc (.cells row 82)).heap.size = w.heap.size + 1 := by simp
  have hw1o : (w.drew.alloc (.cells row 82)).os = w.os ∧ (w.drew.alloc (.cells row 82)).tape = w.tape ∧ (w.drew.alloc (.cells row 82)).output = w.output := ⟨rfl, rfl, rfl⟩
  generalize hw1 : w.drew.alloc (.cells row 82) = w1 at *
  have hcell : ∀ a u, w.cell? a = some u → w1.cell? a = some u := fun a u h => by
    have hlt : a.block < w.heap.size := by
      rcases Nat.lt_or_ge a.block w.heap.size with h' | h'
      · exact h'
      · simp [World.cell?, Array.getElem?_eq_none h'] at h
    rw [← h]; exact World.cell?_of_block (w := w) (hol1 _ hlt)
  have hso1 : so G 0 i 4 = i * 4 := by rw [so_ne (by omega), Nat.zero_add]
  have hso2 : so G 0 (i + 1) 4 = i * 4 + 4 ∨ n = i := by
    by_cases h : G = i + 1
    · right; omega
    · left; rw [so_ne h, Nat.zero_add, Nat.add_mul, Nat.one_mul]
  have hc1 : ∀ ty, _ := fun ty => run_copy_row (P := Tryd.prog) w1 23 23 ty 82 i0 Tu hi0 w.heap.size (so G 0 i 4) (n + 1 - i) (G - i) va 1 vc 1 (Nat.min_eq_left (by omega)) vs (by rw [hvl, hk]) row hW1 (by rw [hso1, hvl, hrs]; omega) (fun j u hu => hcell _ _ (hvs j u hu)) hv1
  rw [hso1] at hc1
  have hg1 := putR_get (cur := row) (o := i * 4) (cs := vs) (by rw [hvl, hrs]; omega)
  have hs1 := putR_size (cur := row) (o := i * 4) (cs := vs) (by rw [hvl, hrs]; omega)
  refine CW.seq ?_
  refine CW.region ?_
  refine LW.op rfl (R.moveS rfl) ?_
  refine LW.op rfl (R.moveI rfl) ?_
  refine LW.op rfl (R.slL (l := i) rfl rfl (by omega)) ?_
  refine LW.op rfl (R.moveS rfl) ?_
  refine LW.op rfl (R.cpy (by rw [hso1]; rfl) rfl (hc1 _)) ?_
  refine LW.nil ?_
  refine thn_n ?_
  generalize hrow1 : putR row (i * 4) vs = row1 at *
  have hW2 : (w1.setRow w.heap.size row1).heap[w.heap.size]? = some (.cells row1 82 (0, 0)) := setRow_heap _ _ _ _ _ _ hW1
  have hol2 : ∀ B', B' < w.heap.size → (w1.setRow w.heap.size row1).heap[B']? = w.heap[B']? := fun B' h => by
    rw [setRow_other _ _ _ _ (by omega)]; exact hol1 _ h
  have hw2s : (w1.setRow w.heap.size row1).heap.size = w.heap.size + 1 := by simp [hw1s]
  have hw2o : (w1.setRow w.heap.size row1).os = w.os ∧ (w1.setRow w.heap.size row1).tape = w.tape ∧ (w1.setRow w.heap.size row1).output = w.output := hw1o
  generalize hw2 : w1.setRow w.heap.size row1 = w2 at *
  refine CW.seq ?_
  refine CW.anyR 8 [0, 1, 2, 3, 4, 5, 6, 7] rfl (by kernel_rfl) ?_
  refine SW.op rfl (fun w => R.moveS rfl) ?_
  refine SW.op rfl (fun w => R.moveI rfl) ?_
  refine SW.op rfl (fun w => R.moveI rfl) ?_
  refine SW.op rfl (fun w => R.add rfl rfl (by omega)) ?_
  refine SW.op rfl (fun w => R.slL (l := i + 1) rfl rfl (by omega)) ?_
  refine SW.op rfl (fun w => R.moveS rfl) ?_
  refine SW.op rfl (fun w => R.moveI rfl) ?_
  refine SW.op rfl (fun w => R.slL (l := i) rfl rfl (by omega)) ?_
  refine SW.nil ?_
  have hnl : ((cur.toList.drop (i * 4)).take ((n - i) * 4)).length = (n - i) * i0.size := by simp [hk]; omega
  have hn1 : ∀ u ∈ (cur.toList.drop (i * 4)).take ((n - i) * 4), u.oneCell' = true := by
    intro u hu
    obtain ⟨q, hq⟩ := mem_get hu
    rw [List.getElem?_take] at hq
    split at hq
    · rename_i h1
      rw [List.getElem?_drop] at hq
      exact hone (i * 4 + q) u (by omega) (by simpa using hq)
    · cases hq
  have hso2 : so G 0 (i + 1) 4 = i * 4 + 4 := hso2.resolve_right (by omega)
  have hc2 : ∀ ty, _ := fun ty => run_copy_row (P := Tryd.prog) { w2 with drawn := w2.drawn + 1 } 23 23 ty 82 i0 Tu hi0 w.heap.size (so G 0 (i + 1) 4) (n + 1 - (i + 1)) (G - (i + 1)) ⟨B, so cap 0 i 4, none⟩ (n - i) (cap - i) (n - i) (Nat.min_eq_left (by omega)) _ hnl row1 hW2 (by rw [hso2, hnl, hs1, hrs, hk]; omega) (fun q u hq => by
    rw [List.getElem?_take] at hq
    split at hq
    · rw [List.getElem?_drop] at hq
      rw [Rd.addr_add, so_ne (by omega), cell_of_row ({ w2 with drawn := w2.drawn + 1 } : World) _ _ cur 82 (0, 0) (by rw [← hcur]; exact hol2 _ hBw), Nat.zero_add]
      simpa using hq
    · cases hq) hn1
  rw [hso2] at hc2
  refine LW.op rfl (R.cpy (by rw [hso2]; rfl) rfl (hc2 _)) ?_
  refine LW.nil ?_
  refine thn_n ?_
  rw [hk] at hnl
  generalize hcs : (cur.toList.drop (i * 4)).take ((n - i) * 4) = cs at *
  have hg2 := putR_get (cur := row1) (o := i * 4 + 4) (cs := cs) (by rw [hnl, hs1, hrs]; omega)
  have hs2 := putR_size (cur := row1) (o := i * 4 + 4) (cs := cs) (by rw [hnl, hs1, hrs]; omega)
  refine CW.seq ?_
  refine CW.region ?_
  refine LW.op rfl (R.moveS rfl) ?_
  refine LW.op rfl (R.assignS rfl) ?_
  refine LW.nil ?_
  refine thn_n ?_
  refine CW.ret ?_
  refine thn_r ?_
  refine Fin.ret1 rfl (.inl rfl) ⟨G, rfl, hGn, hGm, ⟨hw2o.1, hw2o.2.1, hw2o.2.2, by simp [hw2s], fun q hq hx => ?_⟩, _, setRow_heap _ _ _ _ _ _ (by exact hW2), by rw [hs2, hs1, hrs], by simp [hw2s], fun q hq => ?_⟩
  · rw [setRow_other _ _ _ _ (by omega)]; exact hol2 q hq
  · rw [hg2, hg1, hnl, hvl]
    by_cases h1 : q < i * 4
    · rw [if_pos (by omega), if_pos h1, if_pos h1]; exact hr0 q h1
    · by_cases h2 : q < i * 4 + 4
      · rw [if_pos h2, if_neg h1, if_pos h2, if_neg h1, if_pos h2]
      · have hN : (n + 1) * 4 = i * 4 + (n - i) * 4 + 4 := by rw [← Nat.add_mul, Nat.add_mul n 1, Nat.one_mul]; congr 2; omega
        rw [if_neg h2, if_pos (by omega), if_neg h1, if_neg h2, ← hcs, List.getElem?_take, if_pos (by omega), List.getElem?_drop, Array.getElem?_toList]
        congr 1; omega
/-- .. where there is room. -/
theorem ins_room_Column (w : World) (B n cap i : Nat) (cur : Array Value) (hcur : w.heap[B]? = some (.cells cur 82 (0, 0))) (hsz : cur.size = cap * 4) (hcm : cap ≤ 9223372036854775807) (hi : i < n) (hroom : n + 1 ≤ cap) (hone : ∀ q v, q < n * 4 → cur[q]? = some v → v.oneCell' = true)
    (vb vo : Nat) (vc : Nat) (vs : List Value) (hvl : vs.length = 4) (hvs : ∀ j u, vs[j]? = some u → w.cell? ((⟨vb, vo, none⟩ : Addr).add j) = some u) (hv1 : ∀ u ∈ vs, u.oneCell' = true) (hne : vb ≠ B) (vcur : Array Value) (vt : TypeId) (hvc : w.heap[vb]? = some (.cells vcur vt (0, 0))) :
    Calls Tryd.prog 72 [.slice (some ⟨B, 0, none⟩) n cap, .int .i64 (i : Int), .slice (some ⟨vb, vo, none⟩) 1 vc].toArray w fun e w' => e = .returned (.slice (some ⟨B, 0, none⟩) (n + 1) cap) ∧ BelowX [B] w w' ∧ ∃ new, w'.heap[B]? = some (.cells new 82 (0, 0)) ∧ new.size = cur.size ∧ ∀ q, q < (n + 1) * 4 → new[q]? = if q < i * 4 then cur[q]? else if q < i * 4 + 4 then vs[q - i * 4]? else cur[q - 4]? := by
  have Z : CE Tryd.prog 82 4 40 := inferInstance
  have Tu : Tryd.prog.underlying 23 = some (.slice 82) := (inferInstance : CSl Tryd.prog 23 82).u
  obtain ⟨i0, z, hi0, hz, hk, hby, hzk⟩ := Z.ex
  have hov : ∀ lb cb, (callFunc 77 #[.slice (some ⟨vb, vo, none⟩) 1 vc, .slice (some ⟨B, so cap 0 (i + 1) 4, none⟩) lb cb]).run Tryd.prog w = .ok (.value (.bool false)) w := fun lb cb => by
    rw [run_callFunc_extern Tryd.func77 (by kernel_rfl) (by kernel_rfl) (by kernel_rfl) (e := Extern.SlicesOverlaps.overlaps #[23, 23] #[4]) (by kernel_rfl),
      Lib.run_overlaps_apart w 23 4 82 Tu 4 (inferInstance : CS Tryd.prog 82 4).run ⟨vb, vo, none⟩ ⟨B, so cap 0 (i + 1) 4, none⟩ 1 vc lb cb hne vt 82 vcur.size cur.size (shape_of_row hvc) (shape_of_row hcur) (by omega) (frozen_of_row hvc) (frozen_of_row hvc)]
    rfl
  refine calls Tryd.func72 rfl rfl ?_
  refine CW.seq ?_
  refine CW.region ?_
  refine LW.op rfl (R.assign) ?_
  refine LW.nil ?_
  refine thn_n ?_
  refine CW.seq ?_
  refine CW.region ?_
  refine LW.op rfl (R.moveS rfl) ?_
  refine LW.op rfl (R.moveI rfl) ?_
  refine LW.op rfl (R.slL (l := i) rfl rfl (by omega)) ?_
  refine LW.nil ?_
  refine thn_n ?_
  refine CW.seq ?_
  refine CW.region ?_
  refine LW.op rfl (R.moveS rfl) ?_
  refine LW.op rfl (R.lenSl rfl) ?_
  refine LW.op rfl (R.assignI rfl) ?_
  refine LW.nil ?_
  refine thn_n ?_
  refine CW.seq ?_
  refine CW.seq ?_
  refine CW.region ?_
  refine LW.op rfl (R.moveI rfl) ?_
  refine LW.op rfl (R.eql rfl rfl) ?_
  refine LW.nil ?_
  refine thn_n ?_
  refine CW.cond_false rfl (decide_eq_false (by omega)) ?_
  refine CW.skip ?_
  refine thn_n ?_
  refine CW.seq ?_
  refine CW.region ?_
  refine LW.op rfl (R.moveS rfl) ?_
  refine LW.op rfl (R.lenSl rfl) ?_
  refine LW.op rfl (R.assignI rfl) ?_
  refine LW.nil ?_
  refine thn_n ?_
  refine CW.seq ?_
  refine CW.seq ?_
  refine CW.region ?_
  refine LW.op rfl (R.moveI rfl) ?_
  refine LW.op rfl (R.moveI rfl) ?_
  refine LW.op rfl (R.eql rfl rfl) ?_
  refine LW.nil ?_
  refine thn_n ?_
  refine CW.cond_false rfl (decide_eq_false (by omega)) ?_
  refine CW.skip ?_
  refine thn_n ?_
  refine CW.seq ?_
  refine CW.seq ?_
  refine CW.region ?_
  refine LW.op rfl (R.moveI rfl) ?_
  refine LW.op rfl (R.moveI rfl) ?_
  refine LW.op rfl (R.add rfl rfl (by omega)) ?_
  refine LW.op rfl (R.moveS rfl) ?_
  refine LW.op rfl (R.capSl rfl) ?_
  refine LW.op rfl (R.gtr rfl rfl) ?_
  refine LW.nil ?_
  refine thn_n ?_
  refine CW.cond_false rfl (decide_eq_false (by omega)) ?_
  refine CW.skip ?_
  refine thn_n ?_
  refine CW.seq ?_
  refine CW.region ?_
  refine LW.op rfl (R.moveS rfl) ?_
  refine LW.op rfl (R.moveI rfl) ?_
  refine LW.op rfl (R.moveI rfl) ?_
  refine LW.op rfl (R.add rfl rfl (by omega)) ?_
  refine LW.op rfl (R.slH (h := n + 1) rfl rfl hroom) ?_
  refine LW.op rfl (R.assignS rfl) ?_
  refine LW.nil ?_
  refine thn_n ?_
  refine CW.seq ?_
  refine CW.seq ?_
  refine CW.region ?_
  refine LW.op rfl (R.moveS rfl) ?_
  refine LW.op rfl (R.moveS rfl) ?_
  refine LW.op rfl (R.moveI rfl) ?_
  refine LW.op rfl (R.moveI rfl) ?_
  refine LW.op rfl (R.add rfl rfl (by omega)) ?_
  refine LW.op rfl (R.slL (l := i + 1) rfl rfl (by omega)) ?_
  refine LW.op rfl (R.ext (xs := [_, _]) rfl (hov _ _)) ?_
  refine LW.op rfl (R.unnot rfl) ?_
  refine LW.nil ?_
  refine thn_n ?_
  refine CW.cond_true rfl rfl ?_
  refine CW.seq ?_
  refine CW.anyR 8 [0, 1, 2, 3, 4, 5, 6, 7] rfl (by kernel_rfl) ?_
  refine SW.op rfl (fun w => R.moveS rfl) ?_
  refine SW.op rfl (fun w => R.moveI rfl) ?_
  refine SW.op rfl (fun w => R.moveI rfl) ?_
  refine SW.op rfl (fun w => R.add rfl rfl (by omega)) ?_
  refine SW.op rfl (fun w => R.slL (l := i + 1) rfl rfl (by omega)) ?_
  refine SW.op rfl (fun w => R.moveS rfl) ?_
  refine SW.op rfl (fun w => R.moveI rfl) ?_
  refine SW.op rfl (fun w => R.slL (l := i) rfl rfl (by omega)) ?_
  refine SW.nil ?_
  have hnl : ((cur.toList.drop (i * 4)).take ((n - i) * 4)).length = (n - i) * i0.size := by simp [hk]; omega
  have hn1 : ∀ u ∈ (cur.toList.drop (i * 4)).take ((n - i) * 4), u.oneCell' = true := by
    intro u hu
    obtain ⟨q, hq⟩ := mem_get hu
    rw [List.getElem?_take] at hq
    split at hq
    · rename_i h1
      rw [List.getElem?_drop] at hq
      exact hone (i * 4 + q) u (by omega) (by simpa using hq)
    · cases hq
  have hso1 : so cap 0 i 4 = i * 4 := by rw [so_ne (by omega), Nat.zero_add]
  have hle2 : i * 4 + 4 + (n - i) * 4 ≤ cap * 4 := by
    have : i * 4 + 4 + (n - i) * 4 = (n + 1) * 4 := by rw [Nat.add_right_comm, ← Nat.add_mul, Nat.add_mul n 1, Nat.one_mul]; congr 2; omega
    rw [this]; exact Nat.mul_le_mul_right _ hroom
  have hso2 : so cap 0 (i + 1) 4 = i * 4 + 4 := by rw [so_ne (by omega), Nat.zero_add, Nat.add_mul, Nat.one_mul]
  have hc2 : ∀ ty, _ := fun ty => run_copy_row (P := Tryd.prog) { w with drawn := w.drawn + 1 } 23 23 ty 82 i0 Tu hi0 B (so cap 0 (i + 1) 4) (n + 1 - (i + 1)) (cap - (i + 1)) ⟨B, so cap 0 i 4, none⟩ (n + 1 - i) (cap - i) (n - i) (by rw [show n + 1 - (i + 1) = n - i by omega]; exact Nat.min_eq_right (by omega)) _ hnl cur hcur (by rw [hso2, hnl, hsz, hk]; exact hle2) (fun q u hq => by
    rw [List.getElem?_take] at hq
    split at hq
    · rw [List.getElem?_drop] at hq
      rw [Rd.addr_add, hso1, cell_of_row ({ w with drawn := w.drawn + 1 } : World) _ _ cur 82 (0, 0) hcur]
      simpa using hq
    · cases hq) hn1
  rw [hso2] at hc2
  refine LW.op rfl (R.cpy (by rw [hso2]; rfl) rfl (hc2 _)) ?_
  refine LW.nil ?_
  refine thn_n ?_
  rw [hk] at hnl
  generalize hcs : (cur.toList.drop (i * 4)).take ((n - i) * 4) = cs at *
  have hg1 := putR_get (cur := cur) (o := i * 4 + 4) (cs := cs) (by rw [hnl, hsz]; exact hle2)
  have hs1 := putR_size (cur := cur) (o := i * 4 + 4) (cs := cs) (by rw [hnl, hsz]; exact hle2)
  generalize hrow1 : putR cur (i * 4 + 4) cs = row1 at *
  have hW1 : (({ w with drawn := w.drawn + 1 } : World).setRow B row1).heap[B]? = some (.cells row1 82 (0, 0)) := setRow_heap _ _ _ _ _ _ hcur
  have hol1 : ∀ B', B' ≠ B → (({ w with drawn := w.drawn + 1 } : World).setRow B row1).heap[B']? = w.heap[B']? := fun B' h => setRow_other _ _ _ _ h
  have hw1s : (({ w with drawn := w.drawn + 1 } : World).setRow B row1).heap.size = w.heap.size := by simp
  have hw1o : (({ w with drawn := w.drawn + 1 } : World).setRow B row1).os = w.os ∧ (({ w with drawn := w.drawn + 1 } : World).setRow B row1).tape = w.tape ∧ (({ w with drawn := w.drawn + 1 } : World).setRow B row1).output = w.output := ⟨rfl, rfl, rfl⟩
  generalize hw1 : ({ w with drawn := w.drawn + 1 } : World).setRow B row1 = w1 at *
  have hc1 : ∀ ty, _ := fun ty => run_copy_row (P := Tryd.prog) w1 23 23 ty 82 i0 Tu hi0 B (so cap 0 i 4) (n + 1 - i) (cap - i) ⟨vb, vo, none⟩ 1 vc 1 (Nat.min_eq_left (by omega)) vs (by rw [hvl, hk]) row1 hW1 (by rw [hso1, hvl, hs1, hsz]; omega) (fun j u hu => by rw [← hvs j u hu]; exact World.cell?_of_block (w := w) (hol1 _ (by rw [Rd.addr_add]; exact hne))) hv1
  rw [hso1] at hc1
  have hg2 := putR_get (cur := row1) (o := i * 4) (cs := vs) (by rw [hvl, hs1, hsz]; omega)
  have hs2 := putR_size (cur := row1) (o := i * 4) (cs := vs) (by rw [hvl, hs1, hsz]; omega)
  refine CW.seq ?_
  refine CW.region ?_
  refine LW.op rfl (R.moveS rfl) ?_
  refine LW.op rfl (R.moveI rfl) ?_
  refine LW.op rfl (R.slL (l := i) rfl rfl (by omega)) ?_
  refine LW.op rfl (R.moveS rfl) ?_
  refine LW.op rfl (R.cpy (by rw [hso1]; rfl) rfl (hc1 _)) ?_
  refine LW.nil ?_
  refine thn_n ?_
  refine CW.seq ?_
  refine CW.region ?_
  refine LW.op rfl (R.moveS rfl) ?_
  refine LW.op rfl (R.assignS rfl) ?_
  refine LW.nil ?_
  refine thn_n ?_
  refine CW.ret ?_
  refine thn_r ?_
  refine Fin.ret1 rfl (.inl rfl) ⟨rfl, ⟨hw1o.1, hw1o.2.1, hw1o.2.2, by simp [hw1s], fun q hq hx => ?_⟩, _, setRow_heap _ _ _ _ _ _ hW1, by rw [hs2, hs1], fun q hq => ?_⟩
  · have hx : q ≠ B := by simpa using hx
    rw [setRow_other _ _ _ _ hx]; exact hol1 q hx
  · rw [hg2, hg1, hnl, hvl]
    by_cases h1 : q < i * 4
    · rw [if_pos h1, if_pos (by omega), if_pos h1]
    · by_cases h2 : q < i * 4 + 4
      · rw [if_neg h1, if_pos h2, if_neg h1, if_pos h2]
      · have hN : (n + 1) * 4 = i * 4 + (n - i) * 4 + 4 := by rw [← Nat.add_mul, Nat.add_mul n 1, Nat.one_mul]; congr 2; omega
        rw [if_neg h1, if_neg h2, if_neg h2, if_pos (by omega), if_neg h1, if_neg h2, ← hcs, List.getElem?_take, if_pos (by omega), List.getElem?_drop, Array.getElem?_toList]
        congr 1; omega
theorem ins_core_Column {s : Bs} {M : Mp} {O : Obs} {U : Nat → Prop} {w : World} (S : Mem s M O U w) {v : Value} {n i : Nat} {olds : List Value} (hv : Grw s M U w 82 4 v n olds) (h1o : ∀ u ∈ olds, u.oneCell' = true)
    {cs ds : List Tr} (hcs : cs.length = olds.length) (hco : ∀ (j : Nat) c y, cs[j]? = some c → olds[j]? = some y → TRel w U c y)
    {vb vo vc : Nat} {vs : List Value} (hvl : vs.length = 4) (hds : ds.length = 4) (hvs : ∀ j u, vs[j]? = some u → w.cell? ((⟨vb, vo, none⟩ : Addr).add j) = some u) (hv1 : ∀ u ∈ vs, u.oneCell' = true) (hdv : ∀ (j : Nat) c y, ds[j]? = some c → vs[j]? = some y → TRel w U c y)
    (hin : InM M vb) {vcur : Array Value} {vt : TypeId} (hvc : w.heap[vb]? = some (.cells vcur vt (0, 0))) (hi : i ≤ n) (hbytes : (n + 1) * 40 ≤ 140737488355328) (h63 : n + 1 ≤ 4611686018427387904) :
    Calls Tryd.prog 72 [v, .int .i64 (i : Int), .slice (some ⟨vb, vo, none⟩) 1 vc].toArray w fun e w' => ∃ v' x, e = .returned v' ∧ Mem s (M ++ [x]) (O ++ [some ⟨.tr (cs.take (i * 4) ++ ds ++ cs.drop (i * 4)), 82, 4⟩]) U w' ∧ (∀ c z, Rel w U M c z → Rel w' U (M ++ [x]) c z) ∧ Rel w' U (M ++ [x]) (.os O.length 0 (n + 1)) v' := by
  have hcl : cs.length = n * 4 := by rw [hcs, hv.1]
  have hdl : (cs.take (i * 4) ++ ds ++ cs.drop (i * 4)).length = (n + 1) * 4 := by
    have := Nat.mul_le_mul_right 4 hi
    simp; omega
  by_cases hin' : i = n
  · subst hin'
    have e1 : cs.take (i * 4) ++ ds ++ cs.drop (i * 4) = cs ++ ds := by
      rw [List.take_of_length_le (by omega), List.drop_of_length_le (by omega), List.append_nil]
    rw [e1]
    have key : ∀ base cap, v = .slice base i cap → Calls Tryd.prog 72 [v, .int .i64 (i : Int), .slice (some ⟨vb, vo, none⟩) 1 vc].toArray w fun e w' => ∃ v' x, e = .returned v' ∧ Mem s (M ++ [x]) (O ++ [some ⟨.tr (cs ++ ds), 82, 4⟩]) U w' ∧ (∀ c z, Rel w U M c z → Rel w' U (M ++ [x]) c z) ∧ Rel w' U (M ++ [x]) (.os O.length 0 (i + 1)) v' := by
      intro base cap e
      subst e
      obtain ⟨v', w', x, hrun, S', h1, h2, _⟩ := append_core (P := Tryd.prog) (t := 23) (ty := 0) S hv (ad := some ⟨vb, vo, none⟩) (m := 1) (c := vc) (news := vs) (by rw [hvl]) (.inr ⟨_, rfl, hvs⟩) hv1 h1o hcs (by rw [hds, hvl]) hco hdv hbytes h63
      refine (ins_end_Column w w' base i cap (some ⟨vb, vo, none⟩) vc v' (fun ty => hrun)).mono ?_
      rintro e w'' ⟨rfl, rfl⟩
      exact ⟨v', x, rfl, S', h1, h2⟩
    rcases hv.2 with ⟨e, e'⟩ | ⟨B, o, cap, cur, e, _⟩
    · exact key none 0 (by rw [e, e'])
    · exact key _ _ e
  have hin : i < n := by omega
  rcases hv.2 with ⟨e, e'⟩ | ⟨B, o, cap, cur, rfl, hnc, hcm, hcur, h2, h3, h4, h5⟩
  · omega
  rcases h5 with ⟨h6, _⟩ | ⟨rfl, hsz, htk⟩
  · omega
  have hne : vb ≠ B := fun e => h2 (e ▸ ‹InM M vb›)
  have hcm' : cap ≤ 9223372036854775807 := hcm
  have hnk : n * 4 ≤ cap * 4 := Nat.mul_le_mul_right _ hnc
  have hol : ∀ q, q < n * 4 → cur[q]? = olds[q]? := fun q hq => by
    rw [← htk, List.getElem?_take, if_pos hq, Array.getElem?_toList]
  have hone : ∀ q u, q < n * 4 → cur[q]? = some u → u.oneCell' = true := fun q u hq hu => h1o u (by rw [hol q hq] at hu; exact get_mem hu)
  have hcells : ∀ new : Array Value, (∀ q, q < (n + 1) * 4 → new[q]? = if q < i * 4 then cur[q]? else if q < i * 4 + 4 then vs[q - i * 4]? else cur[q - 4]?) → ∀ (j : Nat) c, (Ob.cells ⟨.tr (cs.take (i * 4) ++ ds ++ cs.drop (i * 4)), 82, 4⟩)[j]? = some c → ∃ y, new[0 + j]? = some y ∧ y.oneCell' = true ∧ Rel w U M c y := by
    intro new hnew j c hc
    simp only [Ob.cells, Cs.list, List.getElem?_map] at hc
    cases hq : (cs.take (i * 4) ++ ds ++ cs.drop (i * 4))[j]? with
    | none => rw [hq] at hc; cases hc
    | some q =>
      rw [hq] at hc; simp at hc; subst hc
      have hj := (List.getElem?_eq_some_iff.1 hq).1
      rw [hdl] at hj
      rw [Nat.zero_add, hnew j hj]
      have hik : i * 4 ≤ n * 4 := Nat.mul_le_mul_right _ hi
      simp only [List.getElem?_append, List.length_append, List.length_take, hcl, hds, Nat.min_eq_left hik] at hq
      by_cases h1 : j < i * 4
      · rw [if_pos (by omega), if_pos h1, List.getElem?_take, if_pos h1] at hq
        rw [if_pos h1, hol j (by omega)]
        have hy : olds[j]? = some (olds[j]'(by rw [← hcs, hcl]; omega)) := List.getElem?_eq_getElem _
        exact ⟨_, hy, h1o _ (get_mem hy), .t _ _ (hco j q _ hq hy)⟩
      · by_cases h2 : j < i * 4 + 4
        · rw [if_pos h2, if_neg h1] at hq
          rw [if_neg h1, if_pos h2]
          have hy : vs[j - i * 4]? = some (vs[j - i * 4]'(by omega)) := List.getElem?_eq_getElem _
          exact ⟨_, hy, hv1 _ (get_mem hy), .t _ _ (hdv _ q _ hq hy)⟩
        · rw [if_neg h2, List.getElem?_drop] at hq
          rw [if_neg h1, if_neg h2, hol _ (by rw [Nat.add_mul] at hj; omega)]
          have hy : olds[j - 4]? = some (olds[j - 4]'(by rw [← hcs, hcl]; rw [Nat.add_mul] at hj; omega)) := List.getElem?_eq_getElem _
          refine ⟨_, hy, h1o _ (get_mem hy), .t _ _ (hco _ q _ ?_ hy)⟩
          rw [← hq]; congr 1; omega
  by_cases hroom : n + 1 ≤ cap
  · refine (ins_room_Column w B n cap i cur hcur hsz hcm' hin hroom hone vb vo vc vs hvl hvs hv1 hne vcur vt hvc).mono ?_
    rintro e w' ⟨rfl, hb, new, g1, g2, g3⟩
    have hrk : (n + 1) * 4 ≤ cap * 4 := Nat.mul_le_mul_right _ hroom
    obtain ⟨S', hr'⟩ := S.insX (w' := w') (L := ⟨B, cap * 4, 4⟩) (ob := ⟨.tr (cs.take (i * 4) ++ ds ++ cs.drop (i * 4)), 82, 4⟩) (X := [B]) hb (fun B' h => by simp at h; subst h; exact ⟨h2, h3, h4⟩) ⟨h2, h3, h4, (Array.getElem?_eq_some_iff.1 g1).1⟩
      ⟨new, rfl, by simp only [Ob.cells, Cs.list, List.length_map, hdl, Loc.off]; omega, g1, by rw [g2, hsz], hcells new g3⟩
    exact ⟨_, _, rfl, S', hr', .os _ _ _ _ ⟨B, cap * 4, 4⟩ (snoc_new S.len.symm) (by simp [Loc.off]) hroom hcm⟩
  · refine (ins_grow_Column w B n cap i cur hcur hsz hnc hin (by omega) hbytes hone ⟨vb, vo, none⟩ vc vs hvl hvs hv1).mono ?_
    rintro e w' ⟨G, rfl, hGn, hGm, hb, new, g1, g2, glt, g3⟩
    have hrk : (n + 1) * 4 ≤ G * 4 := Nat.mul_le_mul_right _ hGn
    obtain ⟨S', hr'⟩ := S.insX (w' := w') (L := ⟨w.heap.size, G * 4, 4⟩) (ob := ⟨.tr (cs.take (i * 4) ++ ds ++ cs.drop (i * 4)), 82, 4⟩) (X := []) hb (fun B' h => by simp at h) ⟨fun h => by have h : InM M w.heap.size := h; have := S.lt _ h; omega, fun h => by have h : U w.heap.size := h; have := (S.u _ h).1.1; omega, S.base.size, glt⟩
      ⟨new, rfl, by simp only [Ob.cells, Cs.list, List.length_map, hdl, Loc.off]; omega, g1, g2, hcells new g3⟩
    exact ⟨_, _, rfl, S', hr', .os _ _ _ _ ⟨w.heap.size, G * 4, 4⟩ (snoc_new S.len.symm) (by simp [Loc.off]) hGn hGm⟩
theorem PL.ins_Column {n : Nat} {s : Bs} {Q : APost} {σ : Fr} {O : Obs} {ops : Array Oper} {rest : List Oper} {d : Nat} {ty : TypeId} {pos : String} {after : Array Edge} {ats : Array TypeId} {m0 : Nat} (hm : s.L.length = m0) {x y z : Operand} {b l n0 : Nat} {xs zs : List I_Column} {a : I_Column} {i : Int} (hd : Nat.blt d n = true) (hx : evA σ x = .os b 0 n0) (hO : O[b]? = some (some ⟨.tr (eL xs), 82, 4⟩)) (hy : evA σ y = iA i) (hz : evA σ z = .os l 0 1) (hOl : O[l]? = some (some ⟨.tr (eL [a]), 82, 4⟩))
    (hb : Nat.ble m0 b = true) (hlb : Nat.beq l b = false) (hn : n0 = xs.length) (h : insM 40 xs i a = some zs)
    (kk : PL Tryd.prog n s ops rest Q (updA σ d (.os O.length 0 zs.length)) (O.set b none ++ [some ⟨.tr (eL zs), 82, 4⟩])) :
    PL Tryd.prog n s ops (⟨some d, .call { callee := .value (.func 72), args := #[x, y, z], argTypes := ats }, ty, pos, after, none⟩ :: rest) Q σ O := by
  unfold insM at h
  split at h
  case isFalse => cases h
  rename_i hc
  cases h
  obtain ⟨j, rfl⟩ := Int.eq_ofNat_of_zero_le hc.1
  subst hn
  refine ⟨fun M U σc w S hσ => ?_⟩
  have hb' : s.L.length ≤ b := by rw [hm]; exact Nat.le_of_ble_eq_true hb
  have hlb' : b ≠ l := fun e => by subst e; rw [Nat.beq_refl] at hlb; cases hlb
  have ex := evA_rel hσ x; rw [hx] at ex
  have ey := evA_rel hσ y; rw [hy] at ey
  have ez := evA_rel hσ z; rw [hz] at ez
  have hy' := ey.int
  obtain ⟨S1, hk⟩ := S.kill hb'
  obtain ⟨olds, hg, ho1, ho2, ho3⟩ := S.grw hb' hO (eL_all xs) (eL_len xs) ex
  generalize hz' : ev σc z = zv at ez
  cases ez with
  | osd _ _ _ _ _ hM => exact (S.own _ _ _ hOl hM).elim
  | os _ _ _ cap L hM hcap hn' hx1 =>
    obtain ⟨hLk, hle, cur, hcur, hsz, hr⟩ := S.own l _ _ hOl hM
    rw [eL_one] at hle hr
    have hle' : L.off + 4 ≤ cur.size := by rw [hsz]; simpa [Ob.cells, Cs.list, show (enc a).length = 4 from rfl] using hle
    have hvl : ((cur.toList.drop L.off).take 4).length = 4 := by simp; omega
    have hget : ∀ q u, ((cur.toList.drop L.off).take 4)[q]? = some u → q < 4 ∧ cur[L.off + q]? = some u := by
      intro q u hq
      rw [List.getElem?_take] at hq
      split at hq
      · rw [List.getElem?_drop] at hq; exact ⟨‹_›, by simpa using hq⟩
      · cases hq
    have hin : InM (M.set b .dead) L.blk := .ad (by rw [List.getElem?_set_ne hlb']; exact hM)
    have hcall := ins_core_Column (vc := cap) S1 hg ho2 ho1.symm ho3 (ds := enc a) hvl rfl (vb := L.blk) (vo := L.off + 0) (fun q u hq => by
        rw [Rd.addr_add, cell_of_row w _ _ cur _ _ hcur, Nat.add_zero]; exact (hget q u hq).2) (fun u hu => by
        obtain ⟨q, hq⟩ := mem_get hu
        obtain ⟨h1, h2⟩ := hget q u hq
        obtain ⟨y, g1, g2, _⟩ := hr q (.t ((enc a)[q]'h1)) (Rd.tr_get (List.getElem?_eq_getElem h1))
        rw [h2] at g1; cases g1; exact g2) (fun q c u h1 h2 => by
        obtain ⟨h3, h4⟩ := hget q u h2
        obtain ⟨y, g1, _, g3⟩ := hr q (.t c) (Rd.tr_get h1)
        rw [h4] at g1; cases g1
        cases g3 with | t _ _ g => exact g) hin hcur (i := j) (by omega) hc.2.2.1 hc.2.2.2
    refine LW.call hd (f := 72) (run_fcall (xs := [x, y, z]) Tryd.call72 (by rw [List.map_cons, List.map_cons, List.map_cons, List.map_nil, hy', hz'])) hcall ?_
    rintro e w' ⟨v', p, rfl, S', h1, h2⟩
    have e2 : (eL xs).take (j * 4) ++ enc a ++ (eL xs).drop (j * 4) = eL (xs.take ((j : Int).toNat) ++ a :: xs.drop ((j : Int).toNat)) := by
      rw [Int.toNat_natCast, eL_app, eL_cons, show j * 4 = j * (inferInstance : Enc I_Column).k from rfl, eL_take, eL_drop, List.append_assoc]
    rw [e2] at S'
    refine ⟨v', rfl, kk.h _ U _ w' S' (Rels.upd (fun t => h1 _ _ (hk _ _ (hσ t))) d ?_)⟩
    have e3 : (xs.take ((j : Int).toNat) ++ a :: xs.drop ((j : Int).toNat)).length = xs.length + 1 := by simp; omega
    rw [e3]; simpa using h2
theorem PL.del_Column {n : Nat} {s : Bs} {Q : APost} {σ : Fr} {O : Obs} {ops : Array Oper} {rest : List Oper} {d : Nat} {ty : TypeId} {pos : String} {after : Array Edge} {ats : Array TypeId} {m0 : Nat} (hm : s.L.length = m0) {x y z : Operand} {b n0 : Nat} {xs zs : List I_Column} {i j : Int} (hd : Nat.blt d n = true) (hx : evA σ x = .os b 0 n0) (hO : O[b]? = some (some ⟨.tr (eL xs), 82, 4⟩)) (hy : evA σ y = iA i) (hz : evA σ z = iA j)
    (hb : Nat.ble m0 b = true) (hn : n0 = xs.length) (h : delM xs i j = some zs)
    (kk : PL Tryd.prog n s ops rest Q (updA σ d (.os O.length 0 zs.length)) (O.set b none ++ [some ⟨.tr (eL zs), 82, 4⟩])) :
    PL Tryd.prog n s ops (⟨some d, .call { callee := .value (.func 73), args := #[x, y, z], argTypes := ats }, ty, pos, after, none⟩ :: rest) Q σ O := by
  unfold delM at h
  split at h
  case isFalse => cases h
  rename_i hc
  cases h
  obtain ⟨i, rfl⟩ := Int.eq_ofNat_of_zero_le hc.1
  obtain ⟨j, rfl⟩ := Int.eq_ofNat_of_zero_le (show 0 ≤ j by omega)
  subst hn
  refine ⟨fun M U σc w S hσ => ?_⟩
  have hb' : s.L.length ≤ b := by rw [hm]; exact Nat.le_of_ble_eq_true hb
  have ex := evA_rel hσ x; rw [hx] at ex
  have ey := evA_rel hσ y; rw [hy] at ey
  have ez := evA_rel hσ z; rw [hz] at ez
  have hy' := ey.int
  have hz' := ez.int
  obtain ⟨S1, hk⟩ := S.kill hb'
  obtain ⟨olds, hg, ho1, ho2, ho3⟩ := S.grw hb' hO (eL_all xs) (eL_len xs) ex
  rcases hg.2 with ⟨_, e'⟩ | ⟨B, o, cap, cur, hv, hnc, hcm, hcur, h2, h3, h4, h5⟩
  · omega
  rcases h5 with ⟨h6, _⟩ | ⟨rfl, hsz, htk⟩
  · omega
  have hcm' : cap ≤ 9223372036854775807 := hcm
  have hcl : (eL xs).length = xs.length * 4 := eL_len xs
  have hol : ∀ q, q < xs.length * 4 → cur[q]? = olds[q]? := fun q hq => by
    rw [← htk, List.getElem?_take, if_pos hq, Array.getElem?_toList]
  have hone : ∀ q u, q < xs.length * 4 → cur[q]? = some u → u.oneCell' = true := fun q u hq hu => ho2 u (by rw [hol q hq] at hu; exact get_mem hu)
  have hjn : j ≤ xs.length := by omega
  have hij : i ≤ j := by omega
  have hnk : (xs.length - (j - i)) * 4 ≤ cap * 4 := Nat.mul_le_mul_right _ (by omega)
  refine LW.call hd (f := 73) (run_fcall (xs := [x, y, z]) Tryd.call73 (by rw [List.map_cons, List.map_cons, List.map_cons, List.map_nil, hy', hz', hv])) (del_raw_Column w B xs.length cap i j cur hcur hsz hnc hcm' hij hjn hone) ?_
  rintro e w' ⟨rfl, hbx, new, g1, g2, g3⟩
  have hzl : (xs.take i ++ xs.drop j).length = xs.length - (j - i) := by simp; omega
  obtain ⟨S', hr'⟩ := S1.insX (w' := w') (L := ⟨B, cap * 4, 4⟩) (ob := ⟨.tr (eL (xs.take i ++ xs.drop j)), 82, 4⟩) (X := [B]) hbx (fun B' h => by simp at h; subst h; exact ⟨h2, h3, h4⟩) ⟨h2, h3, h4, (Array.getElem?_eq_some_iff.1 g1).1⟩
    ⟨new, rfl, by simp only [Ob.cells, Cs.list, List.length_map, eL_len, hzl, Loc.off, Nat.zero_add]; exact hnk, g1, by rw [g2, hsz], fun q c hq => by
      simp only [Ob.cells, Cs.list, List.getElem?_map] at hq
      cases hq' : (eL (xs.take i ++ xs.drop j))[q]? with
      | none => rw [hq'] at hq; cases hq
      | some t =>
        rw [hq'] at hq; simp at hq; subst hq
        have hql := (List.getElem?_eq_some_iff.1 hq').1
        rw [eL_len, hzl] at hql
        have hql : q < (xs.length - (j - i)) * 4 := hql
        rw [eL_app, ← eL_take, ← eL_drop] at hq'
        have hik : i * 4 ≤ xs.length * 4 := Nat.mul_le_mul_right _ (by omega)
        have hq2 : ((eL xs).take (i * 4) ++ (eL xs).drop (j * 4))[q]? = some t := hq'
        rw [List.getElem?_append, List.length_take, hcl, Nat.min_eq_left hik] at hq2
        show ∃ y, new[0 + q]? = some y ∧ _
        rw [Nat.zero_add, g3 q hql]
        have e5 : (xs.length - (j - i)) * 4 + (j - i) * 4 = xs.length * 4 := by rw [← Nat.add_mul]; congr 1; omega
        have e6 : (j - i) * 4 + i * 4 = j * 4 := by rw [← Nat.add_mul]; congr 1; omega
        by_cases h7 : q < i * 4
        · rw [if_pos h7, List.getElem?_take, if_pos h7] at hq2
          rw [if_pos h7, hol q (by omega)]
          have hy : olds[q]? = some (olds[q]'(by rw [ho1, hcl]; omega)) := List.getElem?_eq_getElem _
          exact ⟨_, hy, ho2 _ (get_mem hy), .t _ _ (ho3 q t _ hq2 hy)⟩
        · rw [if_neg h7, List.getElem?_drop] at hq2
          rw [if_neg h7, hol _ (by omega)]
          have hy : olds[q + (j - i) * 4]? = some (olds[q + (j - i) * 4]'(by rw [ho1, hcl]; omega)) := List.getElem?_eq_getElem _
          refine ⟨_, hy, ho2 _ (get_mem hy), .t _ _ (ho3 _ t _ ?_ hy)⟩
          rw [← hq2]; congr 1; omega⟩
  refine ⟨_, rfl, kk.h _ U _ w' S' (Rels.upd (fun t => hr' _ _ (hk _ _ (hσ t))) d ?_)⟩
  rw [Int.toNat_natCast, Int.toNat_natCast, hzl]
  have := Rel.os (w := w') (U := U) (M := M.set b .dead ++ [.ad ⟨B, cap * 4, 4⟩]) O.length 0 (xs.length - (j - i)) cap ⟨B, cap * 4, 4⟩ (snoc_new (by simp [S.len])) (by simp [Loc.off]) (by omega) hcm
  exact this
/-- slices.Delete at impl.Value. -/
theorem del_raw_Value (w : World) (B n cap i j : Nat) (cur : Array Value) (hcur : w.heap[B]? = some (.cells cur 29 (0, 0))) (hsz : cur.size = cap * 3) (hn : n ≤ cap) (hcm : cap ≤ 9223372036854775807) (hij : i ≤ j) (hj : j ≤ n) (hone : ∀ q v, q < n * 3 → cur[q]? = some v → v.oneCell' = true) :
    Calls Tryd.prog 68 [.slice (some ⟨B, 0, none⟩) n cap, .int .i64 (i : Int), .int .i64 (j : Int)].toArray w fun e w' => e = .returned (.slice (some ⟨B, 0, none⟩) (n - (j - i)) cap) ∧ BelowX [B] w w' ∧ ∃ new, w'.heap[B]? = some (.cells new 29 (0, 0)) ∧ new.size = cur.size ∧ ∀ q, q < (n - (j - i)) * 3 → new[q]? = if q < i * 3 then cur[q]? else cur[q + (j - i) * 3]? := by
  have Z : CE Tryd.prog 29 3 32 := inferInstance
  obtain ⟨i0, z, hi0, hz, hk, hby, hzk⟩ := Z.ex
  have hwr : ∀ m : Nat, m ≤ 9223372036854775807 → (-9223372036854775808 : Int) ≤ (m : Int) ∧ (m : Int) ≤ 9223372036854775807 := fun m h => by omega
  refine calls Tryd.func68 rfl rfl ?_
  refine CW.seq ?_
  refine CW.region ?_
  refine LW.op rfl (R.assign) ?_
  refine LW.nil ?_
  refine thn_n ?_
  refine CW.seq ?_
  refine CW.region ?_
  refine LW.op rfl (R.moveS rfl) ?_
  refine LW.op rfl (R.moveI rfl) ?_
  refine LW.op rfl (R.moveI rfl) ?_
  refine LW.op rfl (R.moveS rfl) ?_
  refine LW.op rfl (R.lenSl rfl) ?_
  refine LW.op rfl (R.slice3 (l := i) (h := j) (m := n) rfl rfl rfl rfl hij hj hn) ?_
  refine LW.nil ?_
  refine thn_n ?_
  refine CW.seq ?_
  refine CW.seq ?_
  refine CW.region ?_
  refine LW.op rfl (R.moveI rfl) ?_
  refine LW.op rfl (R.moveI rfl) ?_
  refine LW.op rfl (R.eql rfl rfl) ?_
  refine LW.nil ?_
  refine thn_n ?_
  by_cases hq : i = j
  · refine CW.cond_true rfl (decide_eq_true (by omega)) ?_
    refine CW.seq ?_
    refine CW.region ?_
    refine LW.op rfl (R.moveS rfl) ?_
    refine LW.op rfl (R.assignS rfl) ?_
    refine LW.nil ?_
    refine thn_n ?_
    refine CW.ret ?_
    refine thn_r ?_
    refine Fin.ret1 rfl (.inl rfl) ⟨by show Ending.returned (Value.slice (some ⟨B, 0, none⟩) n cap) = _; rw [show n - (j - i) = n by omega], BelowX.refl _ _, cur, hcur, rfl, fun q hq' => ?_⟩
    split
    · rfl
    · rw [show (j - i) * 3 = 0 by rw [show j - i = 0 by omega, Nat.zero_mul], Nat.add_zero]
  refine CW.cond_false rfl (decide_eq_false (by omega)) ?_
  refine CW.skip ?_
  refine thn_n ?_
  refine CW.seq ?_
  refine CW.region ?_
  refine LW.op rfl (R.moveS rfl) ?_
  refine LW.op rfl (R.lenSl rfl) ?_
  refine LW.op rfl (R.assignI rfl) ?_
  refine LW.nil ?_
  refine thn_n ?_
  refine CW.seq ?_
  refine CW.anyR 6 [0, 1, 2, 3, 4, 5] rfl (by kernel_rfl) ?_
  refine SW.op rfl (fun w => R.moveS rfl) ?_
  refine SW.op rfl (fun w => R.moveI rfl) ?_
  refine SW.op rfl (fun w => R.slH (h := i) rfl rfl (by omega)) ?_
  refine SW.op rfl (fun w => R.moveS rfl) ?_
  refine SW.op rfl (fun w => R.moveI rfl) ?_
  refine SW.op rfl (fun w => R.slL (l := j) rfl rfl hj) ?_
  refine SW.nil ?_
  have hnl : ((cur.toList.drop (j * 3)).take ((n - j) * 3)).length = (n - j) * i0.size := by simp [hk]; omega
  have hsrc : ∀ q u, ((cur.toList.drop (j * 3)).take ((n - j) * 3))[q]? = some u → ({ w with drawn := w.drawn + 1 } : World).cell? ((⟨B, so cap 0 j 3, none⟩ : Addr).add q) = some u := by
    intro q u hq
    rw [List.getElem?_take] at hq
    split at hq
    · rename_i h1
      rw [List.getElem?_drop] at hq
      rw [Rd.addr_add, so_ne (by omega), cell_of_row ({ w with drawn := w.drawn + 1 } : World) _ _ cur 29 (0, 0) hcur, Nat.zero_add]
      simpa using hq
    · cases hq
  have hn1 : ∀ u ∈ (cur.toList.drop (j * 3)).take ((n - j) * 3), u.oneCell' = true := by
    intro u hu
    obtain ⟨q, hq⟩ := mem_get hu
    rw [List.getElem?_take] at hq
    split at hq
    · rename_i h1
      rw [List.getElem?_drop] at hq
      exact hone (j * 3 + q) u (by omega) (by simpa using hq)
    · cases hq
  have hrun := run_append_room (P := Tryd.prog) { w with drawn := w.drawn + 1 } 37 37 29 i0 (inferInstance : CSl Tryd.prog 37 29).u hi0 B i cap cur hcur ⟨B, so cap 0 j 3, none⟩ (n - j) (cap - j) _ hnl hsrc hn1 (by omega) (by rw [hnl, hk]; omega)
  rw [hk] at hrun
  refine LW.op rfl (R.apd rfl rfl hrun) ?_
  refine LW.op rfl (R.assignS rfl) ?_
  refine LW.nil ?_
  refine thn_n ?_
  clear hrun
  generalize hcs : (cur.toList.drop (j * 3)).take ((n - j) * 3) = cs at *
  rw [hk] at hnl
  have hg1 := putR_get (cur := cur) (o := i * 3) (cs := cs) (by rw [hnl]; omega)
  have hs1 := putR_size (cur := cur) (o := i * 3) (cs := cs) (by rw [hnl]; omega)
  have hW1 : (({ w with drawn := w.drawn + 1 } : World).setRow B (putR cur (i * 3) cs)).heap[B]? = some (.cells (putR cur (i * 3) cs) 29 (0, 0)) := setRow_heap _ _ _ _ _ _ hcur
  show CW Tryd.prog _ _ _ _ (({ w with drawn := w.drawn + 1 } : World).setRow B (putR cur (i * 3) cs))
  generalize hcur1 : putR cur (i * 3) cs = cur1 at *
  have hv : ∀ w, (zeroValue 29).run Tryd.prog w = .ok z w := fun w => by simp [zeroValue, typeInfo, hi0, hz]
  have hzc : ∀ v ∈ z.cells.toList, v.oneCell' = true := by
    have h2 := (hv w).symm.trans ((inferInstance : CZ Tryd.prog 29 _).run w)
    injection h2 with h2
    subst h2
    decide
  obtain ⟨zs, hzs⟩ : ∃ zs, (Builtin.zeroCells z.cells (n - (i + (n - j)))).toList = zs := ⟨_, rfl⟩
  have hzl : zs.length = (n - (i + (n - j))) * 3 := by rw [← hzs, Array.length_toList, size_zeroCells, hzk]
  have hz1 : ∀ v ∈ zs, v.oneCell' = true := by rw [← hzs]; exact zeros_one (by omega) hzc _
  have hso : so cap 0 (i + (n - j)) 3 = (i + (n - j)) * 3 := by rw [so_ne (by omega), Nat.zero_add]
  have hclr : ∀ ty, _ := fun ty => run_clear_row (P := Tryd.prog) (({ w with drawn := w.drawn + 1 } : World).setRow B cur1) 37 29 ty z (inferInstance : CSl Tryd.prog 37 29).u hv B (so cap 0 (i + (n - j)) 3) (n - (i + (n - j))) (cap - (i + (n - j))) (by omega) zs hzs cur1 hW1 (by rw [hso, hzl, hs1, hsz]; omega) hz1
  refine CW.seq ?_
  refine CW.region ?_
  refine LW.op rfl (R.moveS rfl) ?_
  refine LW.op rfl (R.moveS rfl) ?_
  refine LW.op rfl (R.lenSl rfl) ?_
  refine LW.op rfl (R.moveI rfl) ?_
  refine LW.op rfl (R.slLH (l := i + (n - j)) (h := n) rfl rfl rfl (by omega) hn) ?_
  refine LW.opN (run_clr rfl (hclr _)) ?_
  refine LW.nil ?_
  refine thn_n ?_
  rw [hso]
  refine CW.seq ?_
  refine CW.region ?_
  refine LW.op rfl (R.moveS rfl) ?_
  refine LW.op rfl (R.assignS rfl) ?_
  refine LW.nil ?_
  refine thn_n ?_
  refine CW.ret ?_
  have hg2 := putR_get (cur := cur1) (o := (i + (n - j)) * 3) (cs := zs) (by rw [hzl, hs1, hsz]; omega)
  have hs2 := putR_size (cur := cur1) (o := (i + (n - j)) * 3) (cs := zs) (by rw [hzl, hs1, hsz]; omega)
  refine Fin.ret1 rfl (.inl rfl) ⟨by show Ending.returned (Value.slice (some ⟨B, 0, none⟩) (i + (n - j)) cap) = _; rw [show n - (j - i) = i + (n - j) by omega], ⟨rfl, rfl, rfl, by simp, fun q hq hx => ?_⟩, _, setRow_heap _ _ _ _ _ _ hW1, by rw [hs2, hs1], fun q hq => ?_⟩
  · rw [setRow_other _ _ _ _ (by simpa using hx), setRow_other _ _ _ _ (by simpa using hx)]
  · rw [hg2, if_pos (by rw [show i + (n - j) = n - (j - i) by omega]; exact hq), hg1, hnl]
    split
    · rfl
    · rename_i h1
      rw [if_pos (by omega), ← hcs, List.getElem?_take, if_pos (by omega), List.getElem?_drop, Array.getElem?_toList]
      congr 1
      have : j * 3 = i * 3 + (j - i) * 3 := by rw [← Nat.add_mul]; congr 1; omega
      omega
/-- slices.Insert at impl.Value, behind all elements. -/
theorem ins_end_Value (w w' : World) (base : Option Addr) (i cap : Nat) (va : Option Addr) (vc : Nat) (v' : Value) (hr : ∀ ty, (Builtin.append_ #[37, 37] ty #[.slice base i cap, .slice va 1 vc]).run Tryd.prog w = .ok v' w') :
    Calls Tryd.prog 67 [.slice base i cap, .int .i64 (i : Int), .slice va 1 vc].toArray w fun e w'' => e = .returned v' ∧ w'' = w' := by
  refine calls Tryd.func67 rfl rfl ?_
  refine CW.seq ?_
  refine CW.region ?_
  refine LW.op rfl (R.assign) ?_
  refine LW.nil ?_
  refine thn_n ?_
  refine CW.seq ?_
  refine CW.region ?_
  refine LW.op rfl (R.moveS rfl) ?_
  refine LW.op rfl (R.moveI rfl) ?_
  refine LW.op rfl (run_slice (lo := some _) (hi := none) (l := i) (h := i) rfl rfl rfl (Nat.le_refl _)) ?_
  refine LW.nil ?_
  refine thn_n ?_
  refine CW.seq ?_
  refine CW.region ?_
  refine LW.op rfl (R.moveS rfl) ?_
  refine LW.op rfl (R.lenSl rfl) ?_
  refine LW.op rfl (R.assignI rfl) ?_
  refine LW.nil ?_
  refine thn_n ?_
  refine CW.seq ?_
  refine CW.seq ?_
  refine CW.region ?_
  refine LW.op rfl (R.moveI rfl) ?_
  refine LW.op rfl (R.eql rfl rfl) ?_
  refine LW.nil ?_
  refine thn_n ?_
  refine CW.cond_false rfl (decide_eq_false (by omega)) ?_
  refine CW.skip ?_
  refine thn_n ?_
  refine CW.seq ?_
  refine CW.region ?_
  refine LW.op rfl (R.moveS rfl) ?_
  refine LW.op rfl (R.lenSl rfl) ?_
  refine LW.op rfl (R.assignI rfl) ?_
  refine LW.nil ?_
  refine thn_n ?_
  refine CW.seq ?_
  refine CW.seq ?_
  refine CW.region ?_
  refine LW.op rfl (R.moveI rfl) ?_
  refine LW.op rfl (R.moveI rfl) ?_
  refine LW.op rfl (R.eql rfl rfl) ?_
  refine LW.nil ?_
  refine thn_n ?_
  refine CW.cond_true rfl (decide_eq_true rfl) ?_
  refine CW.seq ?_
  refine CW.region ?_
  refine LW.op rfl (R.moveS rfl) ?_
  refine LW.op rfl (R.moveS rfl) ?_
  refine LW.op rfl (R.apd rfl rfl (hr _)) ?_
  refine LW.op rfl R.assign ?_
  refine LW.nil ?_
  refine thn_n ?_
  refine CW.ret ?_
  refine thn_r ?_
  exact Fin.ret1 rfl (.inl rfl) ⟨rfl, rfl⟩
/-- .. where there is no room. -/
theorem ins_grow_Value (w : World) (B n cap i : Nat) (cur : Array Value) (hcur : w.heap[B]? = some (.cells cur 29 (0, 0))) (hsz : cur.size = cap * 3) (hn : n ≤ cap) (hi : i < n) (hroom : cap < n + 1) (hbig : (n + 1) * 32 ≤ 140737488355328) (hone : ∀ q v, q < n * 3 → cur[q]? = some v → v.oneCell' = true)
    (va : Addr) (vc : Nat) (vs : List Value) (hvl : vs.length = 3) (hvs : ∀ j u, vs[j]? = some u → w.cell? (va.add j) = some u) (hv1 : ∀ u ∈ vs, u.oneCell' = true) :
    Calls Tryd.prog 67 [.slice (some ⟨B, 0, none⟩) n cap, .int .i64 (i : Int), .slice (some va) 1 vc].toArray w fun e w' => ∃ G, e = .returned (.slice (some ⟨w.heap.size, 0, none⟩) (n + 1) G) ∧ n + 1 ≤ G ∧ G ≤ maxLen ∧ BelowX [] w w' ∧ ∃ new, w'.heap[w.heap.size]? = some (.cells new 29 (0, 0)) ∧ new.size = G * 3 ∧ w.heap.size < w'.heap.size ∧ ∀ q, q < (n + 1) * 3 → new[q]? = if q < i * 3 then cur[q]? else if q < i * 3 + 3 then vs[q - i * 3]? else cur[q - 3]? := by
  have Z : CE Tryd.prog 29 3 32 := inferInstance
  have Tu : Tryd.prog.underlying 37 = some (.slice 29) := (inferInstance : CSl Tryd.prog 37 29).u
  obtain ⟨i0, z, hi0, hz, hk, hby, hzk⟩ := Z.ex
  have hml : maxLen = 9223372036854775807 := rfl
  have hBw : B < w.heap.size := (Array.getElem?_eq_some_iff.1 hcur).1
  have hol : (cur.toList.take (i * 3)).length = i * i0.size := by simp [hk]; omega
  have hold : (Builtin.firstCells i0.size i (.slice (some ⟨B, 0, none⟩) i cap)).run Tryd.prog w.drew = .ok (cur.toList.take (i * 3)).toArray w.drew :=
    run_firstCells_some w.drew i0.size i ⟨B, 0, none⟩ i cap _ hol (fun j u hu => by
      rw [List.getElem?_take] at hu
      split at hu
      · rw [Rd.addr_add, Nat.zero_add, cell_of_row w.drew _ _ cur 29 (0, 0) hcur]; simpa using hu
      · cases hu)
  have hrz : ∀ tn ty, Tryd.prog.underlying tn = some (.int .i64) → (Builtin.append_ #[37, tn] ty #[.slice (some ⟨B, 0, none⟩) i cap, .int .i64 ((n : Int) + 1 - (i : Int))]).run Tryd.prog w = .ok (.slice (some ⟨w.heap.size, 0, none⟩) (n + 1) (grownCap w (n + 1) cap 29)) (w.drew.alloc (.cells ((cur.toList.take (i * 3)).toArray ++ Builtin.zeroCells z.cells (n + 1 - i) ++ Builtin.zeroCells z.cells (grownCap w (n + 1) cap 29 - (n + 1))) 29)) := fun tn ty htn => by
    have h := Lib.run_append_grow_zeros w 37 tn ty 29 i0 z .i64 .i64 Tu htn hi0 hz (some ⟨B, 0, none⟩) i cap (cur.toList.take (i * 3)) hold (n + 1 - i) (by omega) (by omega) (by omega) (by omega) (by rw [hby]; omega) (by rw [hby, show i + (n + 1 - i) = n + 1 by omega]; exact growslice_fits hroom hbig)
    rw [show i + (n + 1 - i) = n + 1 by omega] at h
    rw [show (n : Int) + 1 - (i : Int) = ((n + 1 - i : Nat) : Int) by omega]
    exact h
  have hGn : n + 1 ≤ grownCap w (n + 1) cap 29 := grownCap_ge w _ _ _
  have hGm : grownCap w (n + 1) cap 29 ≤ maxLen := grownCap_le_maxLen w (n + 1) cap 29 (by omega)
  generalize hG : grownCap w (n + 1) cap 29 = G at *
  have hrs : ((cur.toList.take (i * 3)).toArray ++ Builtin.zeroCells z.cells (n + 1 - i) ++ Builtin.zeroCells z.cells (G - (n + 1))).size = G * 3 := by
    simp only [Array.size_append, List.size_toArray, size_zeroCells, hzk, hol, hk]
    rw [← Nat.add_mul, ← Nat.add_mul]; congr 1; omega
  have hr0 : ∀ q, q < i * 3 → ((cur.toList.take (i * 3)).toArray ++ Builtin.zeroCells z.cells (n + 1 - i) ++ Builtin.zeroCells z.cells (G - (n + 1)))[q]? = cur[q]? := fun q hq => by
    rw [Array.append_assoc, Array.getElem?_append_left (by simp; omega)]
    simp [hq]
  generalize hrow : (cur.toList.take (i * 3)).toArray ++ Builtin.zeroCells z.cells (n + 1 - i) ++ Builtin.zeroCells z.cells (G - (n + 1)) = row at *
  refine calls Tryd.func67 rfl rfl ?_
  refine CW.seq ?_
  refine CW.region ?_
  refine LW.op rfl (R.assign) ?_
  refine LW.nil ?_
  refine thn_n ?_
  refine CW.seq ?_
  refine CW.region ?_
  refine LW.op rfl (R.moveS rfl) ?_
  refine LW.op rfl (R.moveI rfl) ?_
  refine LW.op rfl (R.slL (l := i) rfl rfl (by omega)) ?_
  refine LW.nil ?_
  refine thn_n ?_
  refine CW.seq ?_
  refine CW.region ?_
  refine LW.op rfl (R.moveS rfl) ?_
  refine LW.op rfl (R.lenSl rfl) ?_
  refine LW.op rfl (R.assignI rfl) ?_
  refine LW.nil ?_
  refine thn_n ?_
  refine CW.seq ?_
  refine CW.seq ?_
  refine CW.region ?_
  refine LW.op rfl (R.moveI rfl) ?_
  refine LW.op rfl (R.eql rfl rfl) ?_
  refine LW.nil ?_
  refine thn_n ?_
  refine CW.cond_false rfl (decide_eq_false (by omega)) ?_
  refine CW.skip ?_
  refine thn_n ?_
  refine CW.seq ?_
  refine CW.region ?_
  refine LW.op rfl (R.moveS rfl) ?_
  refine LW.op rfl (R.lenSl rfl) ?_
  refine LW.op rfl (R.assignI rfl) ?_
  refine LW.nil ?_
  refine thn_n ?_
  refine CW.seq ?_
  refine CW.seq ?_
  refine CW.region ?_
  refine LW.op rfl (R.moveI rfl) ?_
  refine LW.op rfl (R.moveI rfl) ?_
  refine LW.op rfl (R.eql rfl rfl) ?_
  refine LW.nil ?_
  refine thn_n ?_
  refine CW.cond_false rfl (decide_eq_false (by omega)) ?_
  refine CW.skip ?_
  refine thn_n ?_
  refine CW.seq ?_
  refine CW.seq ?_
  refine CW.region ?_
  refine LW.op rfl (R.moveI rfl) ?_
  refine LW.op rfl (R.moveI rfl) ?_
  refine LW.op rfl (R.add rfl rfl (by omega)) ?_
  refine LW.op rfl (R.moveS rfl) ?_
  refine LW.op rfl (R.capSl rfl) ?_
  refine LW.op rfl (R.gtr rfl rfl) ?_
  refine LW.nil ?_
  refine thn_n ?_
  refine CW.cond_true rfl (decide_eq_true (by omega)) ?_
  refine CW.seq ?_
  refine CW.region ?_
  refine LW.op rfl (R.moveS rfl) ?_
  refine LW.op rfl (R.moveI rfl) ?_
  refine LW.op rfl (R.slH (h := i) rfl rfl (by omega)) ?_
  refine LW.op rfl (R.moveI rfl) ?_
  refine LW.op rfl (R.moveI rfl) ?_
  refine LW.op rfl (R.add rfl rfl (by omega)) ?_
  refine LW.op rfl (R.moveI rfl) ?_
  refine LW.op rfl (R.sub rfl rfl (by omega)) ?_
  refine LW.op rfl (R.apd rfl rfl (hrz _ _ (inferInstance : CInU Tryd.prog _).u)) ?_
  refine LW.op rfl (R.assignS rfl) ?_
  refine LW.nil ?_
  refine thn_n ?_
  have hW1 : (w.drew.alloc (.cells row 29)).heap[w.heap.size]? = some (.cells row 29 (0, 0)) := heap_alloc_new w.drew _
  have hol1 : ∀ B', B' < w.heap.size → (w.drew.alloc (.cells row 29)).heap[B']? = w.heap[B']? := fun B' h => by
    exact heap_alloc_old w.drew _ h
  have hw1s : (w.drew.alloc (.cells row 29)).heap.size = w.heap.size + 1 := by simp
  have hw1o : (w.drew.alloc (.cells row 29)).os = w.os ∧ (w.drew.alloc (.cells row 29)).tape = w.tape ∧ (w.drew.alloc (.cells row 29)).output = w.output := ⟨rfl, rfl, rfl⟩
  generalize hw1 : w.drew.alloc (.cells row 29) = w1 at *
  have hcell : ∀ a u, w.cell? a = some u → w1.cell? a = some u := fun a u h => by
    have hlt : a.block < w.heap.size := by
      rcases Nat.lt_or_ge a.block w.heap.size with h' | h'
      · exact h'
      · simp [World.cell?, Array.getElem?_eq_none h'] at h
    rw [← h]; exact World.cell?_of_block (w := w) (hol1 _ hlt)
  have hso1 : so G 0 i 3 = i * 3 := by rw [so_ne (by omega), Nat.zero_add]
  have hso2 : so G 0 (i + 1) 3 = i * 3 + 3 ∨ n = i := by
    by_cases h : G = i + 1
    · right; omega
    · left; rw [so_ne h, Nat.zero_add, Nat.add_mul, Nat.one_mul]
  have hc1 : ∀ ty, _ := fun ty => run_copy_row (P := Tryd.prog) w1 37 37 ty 29 i0 Tu hi0 w.heap.size (so G 0 i 3) (n + 1 - i) (G - i) va 1 vc 1 (Nat.min_eq_left (by omega)) vs (by rw [hvl, hk]) row hW1 (by rw [hso1, hvl, hrs]; omega) (fun j u hu => hcell _ _ (hvs j u hu)) hv1
  rw [hso1] at hc1
  have hg1 := putR_get (cur := row) (o := i * 3) (cs := vs) (by rw [hvl, hrs]; omega)
  have hs1 := putR_size (cur := row) (o := i * 3) (cs := vs) (by rw [hvl, hrs]; omega)
  refine CW.seq ?_
  refine CW.region ?_
  refine LW.op rfl (R.moveS rfl) ?_
  refine LW.op rfl (R.moveI rfl) ?_
  refine LW.op rfl (R.slL (l := i) rfl rfl (by omega)) ?_
  refine LW.op rfl (R.moveS rfl) ?_
  refine LW.op rfl (R.cpy (by rw [hso1]; rfl) rfl (hc1 _)) ?_
  refine LW.nil ?_
  refine thn_n ?_
  generalize hrow1 : putR row (i * 3) vs = row1 at *
  have hW2 : (w1.setRow w.heap.size row1).heap[w.heap.size]? = some (.cells row1 29 (0, 0)) := setRow_heap _ _ _ _ _ _ hW1
  have hol2 : ∀ B', B' < w.heap.size → (w1.setRow w.heap.size row1).heap[B']? = w.heap[B']? := fun B' h => by
    rw [setRow_other _ _ _ _ (by omega)]; exact hol1 _ h
  have hw2s : (w1.setRow w.heap.size row1).heap.size = w.heap.size + 1 := by simp [hw1s]
  have hw2o : (w1.setRow w.heap.size row1).os = w.os ∧ (w1.setRow w.heap.size row1).tape = w.tape ∧ (w1.setRow w.heap.size row1).output = w.output := hw1o
  generalize hw2 : w1.setRow w.heap.size row1 = w2 at *
  refine CW.seq ?_
  refine CW.anyR 8 [0, 1, 2, 3, 4, 5, 6, 7] rfl (by kernel_rfl) ?_
  refine SW.op rfl (fun w => R.moveS rfl) ?_
  refine SW.op rfl (fun w => R.moveI rfl) ?_
  refine SW.op rfl (fun w => R.moveI rfl) ?_
  refine SW.op rfl (fun w => R.add rfl rfl (by omega)) ?_
  refine SW.op rfl (fun w => R.slL (l := i + 1) rfl rfl (by omega)) ?_
  refine SW.op rfl (fun w => R.moveS rfl) ?_
  refine SW.op rfl (fun w => R.moveI rfl) ?_
  refine SW.op rfl (fun w => R.slL (l := i) rfl rfl (by omega)) ?_
  refine SW.nil ?_
  have hnl : ((cur.toList.drop (i * 3)).take ((n - i) * 3)).length = (n - i) * i0.size := by simp [hk]; omega
  have hn1 : ∀ u ∈ (cur.toList.drop (i * 3)).take ((n - i) * 3), u.oneCell' = true := by
    intro u hu
    obtain ⟨q, hq⟩ := mem_get hu
    rw [List.getElem?_take] at hq
    split at hq
    · rename_i h1
      rw [List.getElem?_drop] at hq
      exact hone (i * 3 + q) u (by omega) (by simpa using hq)
    · cases hq
  have hso2 : so G 0 (i + 1) 3 = i * 3 + 3 := hso2.resolve_right (by omega)
  have hc2 : ∀ ty, _ := fun ty => run_copy_row (P := Tryd.prog) { w2 with drawn := w2.drawn + 1 } 37 37 ty 29 i0 Tu hi0 w.heap.size (so G 0 (i + 1) 3) (n + 1 - (i + 1)) (G - (i + 1)) ⟨B, so cap 0 i 3, none⟩ (n - i) (cap - i) (n - i) (Nat.min_eq_left (by omega)) _ hnl row1 hW2 (by rw [hso2, hnl, hs1, hrs, hk]; omega) (fun q u hq => by
    rw [List.getElem?_take] at hq
    split at hq
    · rw [List.getElem?_drop] at hq
      rw [Rd.addr_add, so_ne (by omega), cell_of_row ({ w2 with drawn := w2.drawn + 1 } : World) _ _ cur 29 (0, 0) (by rw [← hcur]; exact hol2 _ hBw), Nat.zero_add]
      simpa using hq
    · cases hq) hn1
  rw [hso2] at hc2
  refine LW.op rfl (R.cpy (by rw [hso2]; rfl) rfl (hc2 _)) ?_
  refine LW.nil ?_
  refine thn_n ?_
  rw [hk] at hnl
  generalize hcs : (cur.toList.drop (i * 3)).take ((n - i) * 3) = cs at *
  have hg2 := putR_get (cur := row1) (o := i * 3 + 3) (cs := cs) (by rw [hnl, hs1, hrs]; omega)
  have hs2 := putR_size (cur := row1) (o := i * 3 + 3) (cs := cs) (by rw [hnl, hs1, hrs]; omega)
  refine CW.seq ?_
  refine CW.region ?_
  refine LW.op rfl (R.moveS rfl) ?_
  refine LW.op rfl (R.assignS rfl) ?_
  refine LW.nil ?_
  refine thn_n ?_
  refine CW.ret ?_
  refine thn_r ?_
  refine Fin.ret1 rfl (.inl rfl) ⟨G, rfl, hGn, hGm, ⟨hw2o.1, hw2o.2.1, hw2o.2.2, by simp [hw2s], fun q hq hx => ?_⟩, _, setRow_heap _ _ _ _ _ _ (by exact hW2), by rw [hs2, hs1, hrs], by simp [hw2s], fun q hq => ?_⟩
  · rw [setRow_other _ _ _ _ (by omega)]; exact hol2 q hq
  · rw [hg2, hg1, hnl, hvl]
    by_cases h1 : q < i * 3
    · rw [if_pos (by omega), if_pos h1, if_pos h1]; exact hr0 q h1
    · by_cases h2 : q < i * 3 + 3
      · rw [if_pos h2, if_neg h1, if_pos h2, if_neg h1, if_pos h2]
      · have hN : (n + 1) * 3 = i * 3 + (n - i) * 3 + 3 := by rw [← Nat.add_mul, Nat.add_mul n 1, Nat.one_mul]; congr 2; omega
        rw [if_neg h2, if_pos (by omega), if_neg h1, if_neg h2, ← hcs, List.getElem?_take, if_pos (by omega), List.getElem?_drop, Array.getElem?_toList]
        congr 1; omega
/-- .. where there is room. -/
theorem ins_room_Value (w : World) (B n cap i : Nat) (cur : Array Value) (hcur : w.heap[B]? = some (.cells cur 29 (0, 0))) (hsz : cur.size = cap * 3) (hcm : cap ≤ 9223372036854775807) (hi : i < n) (hroom : n + 1 ≤ cap) (hone : ∀ q v, q < n * 3 → cur[q]? = some v → v.oneCell' = true)
    (vb vo : Nat) (vc : Nat) (vs : List Value) (hvl : vs.length = 3) (hvs : ∀ j u, vs[j]? = some u → w.cell? ((⟨vb, vo, none⟩ : Addr).add j) = some u) (hv1 : ∀ u ∈ vs, u.oneCell' = true) (hne : vb ≠ B) (vcur : Array Value) (vt : TypeId) (hvc : w.heap[vb]? = some (.cells vcur vt (0, 0))) :
    Calls Tryd.prog 67 [.slice (some ⟨B, 0, none⟩) n cap, .int .i64 (i : Int), .slice (some ⟨vb, vo, none⟩) 1 vc].toArray w fun e w' => e = .returned (.slice (some ⟨B, 0, none⟩) (n + 1) cap) ∧ BelowX [B] w w' ∧ ∃ new, w'.heap[B]? = some (.cells new 29 (0, 0)) ∧ new.size = cur.size ∧ ∀ q, q < (n + 1) * 3 → new[q]? = if q < i * 3 then cur[q]? else if q < i * 3 + 3 then vs[q - i * 3]? else cur[q - 3]? := by
  have Z : CE Tryd.prog 29 3 32 := inferInstance
  have Tu : Tryd.prog.underlying 37 = some (.slice 29) := (inferInstance : CSl Tryd.prog 37 29).u
  obtain ⟨i0, z, hi0, hz, hk, hby, hzk⟩ := Z.ex
  have hov : ∀ lb cb, (callFunc 74 #[.slice (some ⟨vb, vo, none⟩) 1 vc, .slice (some ⟨B, so cap 0 (i + 1) 3, none⟩) lb cb]).run Tryd.prog w = .ok (.value (.bool false)) w := fun lb cb => by
    rw [run_callFunc_extern Tryd.func74 (by kernel_rfl) (by kernel_rfl) (by kernel_rfl) (e := Extern.SlicesOverlaps.overlaps #[37, 37] #[4]) (by kernel_rfl),
      Lib.run_overlaps_apart w 37 4 29 Tu 3 (inferInstance : CS Tryd.prog 29 3).run ⟨vb, vo, none⟩ ⟨B, so cap 0 (i + 1) 3, none⟩ 1 vc lb cb hne vt 29 vcur.size cur.size (shape_of_row hvc) (shape_of_row hcur) (by omega) (frozen_of_row hvc) (frozen_of_row hvc)]
    rfl
  refine calls Tryd.func67 rfl rfl ?_
  refine CW.seq ?_
  refine CW.region ?_
  refine LW.op rfl (R.assign) ?_
  refine LW.nil ?_
  refine thn_n ?_
  refine CW.seq ?_
  refine CW.region ?_
  refine LW.op rfl (R.moveS rfl) ?_
  refine LW.op rfl (R.moveI rfl) ?_
  refine LW.op rfl (R.slL (l := i) rfl rfl (by omega)) ?_
  refine LW.nil ?_
  refine thn_n ?_
  refine CW.seq ?_
  refine CW.region ?_
  refine LW.op rfl (R.moveS rfl) ?_
  refine LW.op rfl (R.lenSl rfl) ?_
  refine LW.op rfl (R.assignI rfl) ?_
  refine LW.nil ?_
  refine thn_n ?_
  refine CW.seq ?_
  refine CW.seq ?_
  refine CW.region ?_
  refine LW.op rfl (R.moveI rfl) ?_
  refine LW.op rfl (R.eql rfl rfl) ?_
  refine LW.nil ?_
  refine thn_n ?_
  refine CW.cond_false rfl (decide_eq_false (by omega)) ?_
  refine CW.skip ?_
  refine thn_n ?_
  refine CW.seq ?_
  refine CW.region ?_
  refine LW.op rfl (R.moveS rfl) ?_
  refine LW.op rfl (R.lenSl rfl) ?_
  refine LW.op rfl (R.assignI rfl) ?_
  refine LW.nil ?_
  refine thn_n ?_
  refine CW.seq ?_
  refine CW.seq ?_
  refine CW.region ?_
  refine LW.op rfl (R.moveI rfl) ?_
  refine LW.op rfl (R.moveI rfl) ?_
  refine LW.op rfl (R.eql rfl rfl) ?_
  refine LW.nil ?_
  refine thn_n ?_
  refine CW.cond_false rfl (decide_eq_false (by omega)) ?_
  refine CW.skip ?_
  refine thn_n ?_
  refine CW.seq ?_
  refine CW.seq ?_
  refine CW.region ?_
  refine LW.op rfl (R.moveI rfl) ?_
  refine LW.op rfl (R.moveI rfl) ?_
  refine LW.op rfl (R.add rfl rfl (by omega)) ?_
  refine LW.op rfl (R.moveS rfl) ?_
  refine LW.op rfl (R.capSl rfl) ?_
  refine LW.op rfl (R.gtr rfl rfl) ?_
  refine LW.nil ?_
  refine thn_n ?_
  refine CW.cond_false rfl (decide_eq_false (by omega)) ?_
  refine CW.skip ?_
  refine thn_n ?_
  refine CW.seq ?_
  refine CW.region ?_
  refine LW.op rfl (R.moveS rfl) ?_
  refine LW.op rfl (R.moveI rfl) ?_
  refine LW.op rfl (R.moveI rfl) ?_
  refine LW.op rfl (R.add rfl rfl (by omega)) ?_
  refine LW.op rfl (R.slH (h := n + 1) rfl rfl hroom) ?_
  refine LW.op rfl (R.assignS rfl) ?_
  refine LW.nil ?_
  refine thn_n ?_
  refine CW.seq ?_
  refine CW.seq ?_
  refine CW.region ?_
  refine LW.op rfl (R.moveS rfl) ?_
  refine LW.op rfl (R.moveS rfl) ?_
  refine LW.op rfl (R.moveI rfl) ?_
  refine LW.op rfl (R.moveI rfl) ?_
  refine LW.op rfl (R.add rfl rfl (by omega)) ?_
  refine LW.op rfl (R.slL (l := i + 1) rfl rfl (by omega)) ?_
  refine LW.op rfl (R.ext (xs := [_, _]) rfl (hov _ _)) ?_
  refine LW.op rfl (R.unnot rfl) ?_
  refine LW.nil ?_
  refine thn_n ?_
  refine CW.cond_true rfl rfl ?_
  refine CW.seq ?_
  refine CW.anyR 8 [0, 1, 2, 3, 4, 5, 6, 7] rfl (by kernel_rfl) ?_
  refine SW.op rfl (fun w => R.moveS rfl) ?_
  refine SW.op rfl (fun w => R.moveI rfl) ?_
  refine SW.op rfl (fun w => R.moveI rfl) ?_
  refine SW.op rfl (fun w => R.add rfl rfl (by omega)) ?_
  refine SW.op rfl (fun w => R.slL (l := i + 1) rfl rfl (by omega)) ?_
  refine SW.op rfl (fun w => R.moveS rfl) ?_
  refine SW.op rfl (fun w => R.moveI rfl) ?_
  refine SW.op rfl (fun w => R.slL (l := i) rfl rfl (by omega)) ?_
  refine SW.nil ?_
  have hnl : ((cur.toList.drop (i * 3)).take ((n - i) * 3)).length = (n - i) * i0.size := by simp [hk]; omega
  have hn1 : ∀ u ∈ (cur.toList.drop (i * 3)).take ((n - i) * 3), u.oneCell' = true := by
    intro u hu
    obtain ⟨q, hq⟩ := mem_get hu
    rw [List.getElem?_take] at hq
    split at hq
    · rename_i h1
      rw [List.getElem?_drop] at hq
      exact hone (i * 3 + q) u (by omega) (by simpa using hq)
    · cases hq
  have hso1 : so cap 0 i 3 = i * 3 := by rw [so_ne (by omega), Nat.zero_add]
  have hle2 : i * 3 + 3 + (n - i) * 3 ≤ cap * 3 := by
    have : i * 3 + 3 + (n - i) * 3 = (n + 1) * 3 := by rw [Nat.add_right_comm, ← Nat.add_mul, Nat.add_mul n 1, Nat.one_mul]; congr 2; omega
    rw [this]; exact Nat.mul_le_mul_right _ hroom
  have hso2 : so cap 0 (i + 1) 3 = i * 3 + 3 := by rw [so_ne (by omega), Nat.zero_add, Nat.add_mul, Nat.one_mul]
  have hc2 : ∀ ty, _ := fun ty => run_copy_row (P := Tryd.prog) { w with drawn := w.drawn + 1 } 37 37 ty 29 i0 Tu hi0 B (so cap 0 (i + 1) 3) (n + 1 - (i + 1)) (cap - (i + 1)) ⟨B, so cap 0 i 3, none⟩ (n + 1 - i) (cap - i) (n - i) (by rw [show n + 1 - (i + 1) = n - i by omega]; exact Nat.min_eq_right (by omega)) _ hnl cur hcur (by rw [hso2, hnl, hsz, hk]; exact hle2) (fun q u hq => by
    rw [List.getElem?_take] at hq
    split at hq
    · rw [List.getElem?_drop] at hq
      rw [Rd.addr_add, hso1, cell_of_row ({ w with drawn := w.drawn + 1 } : World) _ _ cur 29 (0, 0) hcur]
      simpa using hq
    · cases hq) hn1
  rw [hso2] at hc2
  refine LW.op rfl (R.cpy (by rw [hso2]; rfl) rfl (hc2 _)) ?_
  refine LW.nil ?_
  refine thn_n ?_
  rw [hk] at hnl
  generalize hcs : (cur.toList.drop (i * 3)).take ((n - i) * 3) = cs at *
  have hg1 := putR_get (cur := cur) (o := i * 3 + 3) (cs := cs) (by rw [hnl, hsz]; exact hle2)
  have hs1 := putR_size (cur := cur) (o := i * 3 + 3) (cs := cs) (by rw [hnl, hsz]; exact hle2)
  generalize hrow1 : putR cur (i * 3 + 3) cs = row1 at *
  have hW1 : (({ w with drawn := w.drawn + 1 } : World).setRow B row1).heap[B]? = some (.cells row1 29 (0, 0)) := setRow_heap _ _ _ _ _ _ hcur
  have hol1 : ∀ B', B' ≠ B → (({ w with drawn := w.drawn + 1 } : World).setRow B row1).heap[B']? = w.heap[B']? := fun B' h => setRow_other _ _ _ _ h
  have hw1s : (({ w with drawn := w.drawn + 1 } : World).setRow B row1).heap.size = w.heap.size := by simp
  have hw1o : (({ w with drawn := w.drawn + 1 } : World).setRow B row1).os = w.os ∧ (({ w with drawn := w.drawn + 1 } : World).setRow B row1).tape = w.tape ∧ (({ w with drawn := w.drawn + 1 } : World).setRow B row1).output = w.output := ⟨rfl, rfl, rfl⟩
  generalize hw1 : ({ w with drawn := w.drawn + 1 } : World).setRow B row1 = w1 at *
  have hc1 : ∀ ty, _ := fun ty => run_copy_row (P := Tryd.prog) w1 37 37 ty 29 i0 Tu hi0 B (so cap 0 i 3) (n + 1 - i) (cap - i) ⟨vb, vo, none⟩ 1 vc 1 (Nat.min_eq_left (by omega)) vs (by rw [hvl, hk]) row1 hW1 (by rw [hso1, hvl, hs1, hsz]; omega) (fun j u hu => by rw [← hvs j u hu]; exact World.cell?_of_block (w := w) (hol1 _ (by rw [Rd.addr_add]; exact hne))) hv1
  rw [hso1] at hc1
  have hg2 := putR_get (cur := row1) (o := i * 3) (cs := vs) (by rw [hvl, hs1, hsz]; omega)
  have hs2 := putR_size (cur := row1) (o := i * 3) (cs := vs) (by rw [hvl, hs1, hsz]; omega)
  refine CW.seq ?_
  refine CW.region ?_
  refine LW.op rfl (R.moveS rfl) ?_
  refine LW.op rfl (R.moveI rfl) ?_
  refine LW.op rfl (R.slL (l := i) rfl rfl (by omega)) ?_
  refine LW.op rfl (R.moveS rfl) ?_
  refine LW.op rfl (R.cpy (by rw [hso1]; rfl) rfl (hc1 _)) ?_
  refine LW.nil ?_
  refine thn_n ?_
  refine CW.seq ?_
  refine CW.region ?_
  refine LW.op rfl (R.moveS rfl) ?_
  refine LW.op rfl (R.assignS rfl) ?_
  refine LW.nil ?_
  refine thn_n ?_
  refine CW.ret ?_
  refine thn_r ?_
  refine Fin.ret1 rfl (.inl rfl) ⟨rfl, ⟨hw1o.1, hw1o.2.1, hw1o.2.2, by simp [hw1s], fun q hq hx => ?_⟩, _, setRow_heap _ _ _ _ _ _ hW1, by rw [hs2, hs1], fun q hq => ?_⟩
  · have hx : q ≠ B := by simpa using hx
    rw [setRow_other _ _ _ _ hx]; exact hol1 q hx
  · rw [hg2, hg1, hnl, hvl]
    by_cases h1 : q < i * 3
    · rw [if_pos h1, if_pos (by omega), if_pos h1]
    · by_cases h2 : q < i * 3 + 3
      · rw [if_neg h1, if_pos h2, if_neg h1, if_pos h2]
      · have hN : (n + 1) * 3 = i * 3 + (n - i) * 3 + 3 := by rw [← Nat.add_mul, Nat.add_mul n 1, Nat.one_mul]; congr 2; omega
        rw [if_neg h1, if_neg h2, if_neg h2, if_pos (by omega), if_neg h1, if_neg h2, ← hcs, List.getElem?_take, if_pos (by omega), List.getElem?_drop, Array.getElem?_toList]
        congr 1; omega
theorem ins_core_Value {s : Bs} {M : Mp} {O : Obs} {U : Nat → Prop} {w : World} (S : Mem s M O U w) {v : Value} {n i : Nat} {olds : List Value} (hv : Grw s M U w 29 3 v n olds) (h1o : ∀ u ∈ olds, u.oneCell' = true)
    {cs ds : List Tr} (hcs : cs.length = olds.length) (hco : ∀ (j : Nat) c y, cs[j]? = some c → olds[j]? = some y → TRel w U c y)
    {vb vo vc : Nat} {vs : List Value} (hvl : vs.length = 3) (hds : ds.length = 3) (hvs : ∀ j u, vs[j]? = some u → w.cell? ((⟨vb, vo, none⟩ : Addr).add j) = some u) (hv1 : ∀ u ∈ vs, u.oneCell' = true) (hdv : ∀ (j : Nat) c y, ds[j]? = some c → vs[j]? = some y → TRel w U c y)
    (hin : InM M vb) {vcur : Array Value} {vt : TypeId} (hvc : w.heap[vb]? = some (.cells vcur vt (0, 0))) (hi : i ≤ n) (hbytes : (n + 1) * 32 ≤ 140737488355328) (h63 : n + 1 ≤ 4611686018427387904) :
    Calls Tryd.prog 67 [v, .int .i64 (i : Int), .slice (some ⟨vb, vo, none⟩) 1 vc].toArray w fun e w' => ∃ v' x, e = .returned v' ∧ Mem s (M ++ [x]) (O ++ [some ⟨.tr (cs.take (i * 3) ++ ds ++ cs.drop (i * 3)), 29, 3⟩]) U w' ∧ (∀ c z, Rel w U M c z → Rel w' U (M ++ [x]) c z) ∧ Rel w' U (M ++ [x]) (.os O.length 0 (n + 1)) v' := by
  have hcl : cs.length = n * 3 := by rw [hcs, hv.1]
  have hdl : (cs.take (i * 3) ++ ds ++ cs.drop (i * 3)).length = (n + 1) * 3 := by
    have := Nat.mul_le_mul_right 3 hi
    simp; omega
  by_cases hin' : i = n
  · subst hin'
    have e1 : cs.take (i * 3) ++ ds ++ cs.drop (i * 3) = cs ++ ds := by
      rw [List.take_of_length_le (by omega), List.drop_of_length_le (by omega), List.append_nil]
    rw [e1]
    have key : ∀ base cap, v = .slice base i cap → Calls Tryd.prog 67 [v, .int .i64 (i : Int), .slice (some ⟨vb, vo, none⟩) 1 vc].toArray w fun e w' => ∃ v' x, e = .returned v' ∧ Mem s (M ++ [x]) (O ++ [some ⟨.tr (cs ++ ds), 29, 3⟩]) U w' ∧ (∀ c z, Rel w U M c z → Rel w' U (M ++ [x]) c z) ∧ Rel w' U (M ++ [x]) (.os O.length 0 (i + 1)) v' := by
      intro base cap e
      subst e
      obtain ⟨v', w', x, hrun, S', h1, h2, _⟩ := append_core (P := Tryd.prog) (t := 37) (ty := 0) S hv (ad := some ⟨vb, vo, none⟩) (m := 1) (c := vc) (news := vs) (by rw [hvl]) (.inr ⟨_, rfl, hvs⟩) hv1 h1o hcs (by rw [hds, hvl]) hco hdv hbytes h63
      refine (ins_end_Value w w' base i cap (some ⟨vb, vo, none⟩) vc v' (fun ty => hrun)).mono ?_
      rintro e w'' ⟨rfl, rfl⟩
      exact ⟨v', x, rfl, S', h1, h2⟩
    rcases hv.2 with ⟨e, e'⟩ | ⟨B, o, cap, cur, e, _⟩
    · exact key none 0 (by rw [e, e'])
    · exact key _ _ e
  have hin : i < n := by omega
  rcases hv.2 with ⟨e, e'⟩ | ⟨B, o, cap, cur, rfl, hnc, hcm, hcur, h2, h3, h4, h5⟩
  · omega
  rcases h5 with ⟨h6, _⟩ | ⟨rfl, hsz, htk⟩
  · omega
  have hne : vb ≠ B := fun e => h2 (e ▸ ‹InM M vb›)
  have hcm' : cap ≤ 9223372036854775807 := hcm
  have hnk : n * 3 ≤ cap * 3 := Nat.mul_le_mul_right _ hnc
  have hol : ∀ q, q < n * 3 → cur[q]? = olds[q]? := fun q hq => by
    rw [← htk, List.getElem?_take, if_pos hq, Array.getElem?_toList]
  have hone : ∀ q u, q < n * 3 → cur[q]? = some u → u.oneCell' = true := fun q u hq hu => h1o u (by rw [hol q hq] at hu; exact get_mem hu)
  have hcells : ∀ new : Array Value, (∀ q, q < (n + 1) * 3 → new[q]? = if q < i * 3 then cur[q]? else if q < i * 3 + 3 then vs[q - i * 3]? else cur[q - 3]?) → ∀ (j : Nat) c, (Ob.cells ⟨.tr (cs.take (i * 3) ++ ds ++ cs.drop (i * 3)), 29, 3⟩)[j]? = some c → ∃ y, new[0 + j]? = some y ∧ y.oneCell' = true ∧ Rel w U M c y := by
    intro new hnew j c hc
    simp only [Ob.cells, Cs.list, List.getElem?_map] at hc
    cases hq : (cs.take (i * 3) ++ ds ++ cs.drop (i * 3))[j]? with
    | none => rw [hq] at hc; cases hc
    | some q =>
      rw [hq] at hc; simp at hc; subst hc
      have hj := (List.getElem?_eq_some_iff.1 hq).1
      rw [hdl] at hj
      rw [Nat.zero_add, hnew j hj]
      have hik : i * 3 ≤ n * 3 := Nat.mul_le_mul_right _ hi
      simp only [List.getElem?_append, List.length_append, List.length_take, hcl, hds, Nat.min_eq_left hik] at hq
      by_cases h1 : j < i * 3
      · rw [if_pos (by omega), if_pos h1, List.getElem?_take, if_pos h1] at hq
        rw [if_pos h1, hol j (by omega)]
        have hy : olds[j]? = some (olds[j]'(by rw [← hcs, hcl]; omega)) := List.getElem?_eq_getElem _
        exact ⟨_, hy, h1o _ (get_mem hy), .t _ _ (hco j q _ hq hy)⟩
      · by_cases h2 : j < i * 3 + 3
        · rw [if_pos h2, if_neg h1] at hq
          rw [if_neg h1, if_pos h2]
          have hy : vs[j - i * 3]? = some (vs[j - i * 3]'(by omega)) := List.getElem?_eq_getElem _
          exact ⟨_, hy, hv1 _ (get_mem hy), .t _ _ (hdv _ q _ hq hy)⟩
        · rw [if_neg h2, List.getElem?_drop] at hq
          rw [if_neg h1, if_neg h2, hol _ (by rw [Nat.add_mul] at hj; omega)]
          have hy : olds[j - 3]? = some (olds[j - 3]'(by rw [← hcs, hcl]; rw [Nat.add_mul] at hj; omega)) := List.getElem?_eq_getElem _
          refine ⟨_, hy, h1o _ (get_mem hy), .t _ _ (hco _ q _ ?_ hy)⟩
          rw [← hq]; congr 1; omega
  by_cases hroom : n + 1 ≤ cap
  · refine (ins_room_Value w B n cap i cur hcur hsz hcm' hin hroom hone vb vo vc vs hvl hvs hv1 hne vcur vt hvc).mono ?_
    rintro e w' ⟨rfl, hb, new, g1, g2, g3⟩
    have hrk : (n + 1) * 3 ≤ cap * 3 := Nat.mul_le_mul_right _ hroom
    obtain ⟨S', hr'⟩ := S.insX (w' := w') (L := ⟨B, cap * 3, 3⟩) (ob := ⟨.tr (cs.take (i * 3) ++ ds ++ cs.drop (i * 3)), 29, 3⟩) (X := [B]) hb (fun B' h => by simp at h; subst h; exact ⟨h2, h3, h4⟩) ⟨h2, h3, h4, (Array.getElem?_eq_some_iff.1 g1).1⟩
      ⟨new, rfl, by simp only [Ob.cells, Cs.list, List.length_map, hdl, Loc.off]; omega, g1, by rw [g2, hsz], hcells new g3⟩
    exact ⟨_, _, rfl, S', hr', .os _ _ _ _ ⟨B, cap * 3, 3⟩ (snoc_new S.len.symm) (by simp [Loc.off]) hroom hcm⟩
  · refine (ins_grow_Value w B n cap i cur hcur hsz hnc hin (by omega) hbytes hone ⟨vb, vo, none⟩ vc vs hvl hvs hv1).mono ?_
    rintro e w' ⟨G, rfl, hGn, hGm, hb, new, g1, g2, glt, g3⟩
    have hrk : (n + 1) * 3 ≤ G * 3 := Nat.mul_le_mul_right _ hGn
    obtain ⟨S', hr'⟩ := S.insX (w' := w') (L := ⟨w.heap.size, G * 3, 3⟩) (ob := ⟨.tr (cs.take (i * 3) ++ ds ++ cs.drop (i * 3)), 29, 3⟩) (X := []) hb (fun B' h => by simp at h) ⟨fun h => by have h : InM M w.heap.size := h; have := S.lt _ h; omega, fun h => by have h : U w.heap.size := h; have := (S.u _ h).1.1; omega, S.base.size, glt⟩
      ⟨new, rfl, by simp only [Ob.cells, Cs.list, List.length_map, hdl, Loc.off]; omega, g1, g2, hcells new g3⟩
    exact ⟨_, _, rfl, S', hr', .os _ _ _ _ ⟨w.heap.size, G * 3, 3⟩ (snoc_new S.len.symm) (by simp [Loc.off]) hGn hGm⟩
theorem PL.ins_Value {n : Nat} {s : Bs} {Q : APost} {σ : Fr} {O : Obs} {ops : Array Oper} {rest : List Oper} {d : Nat} {ty : TypeId} {pos : String} {after : Array Edge} {ats : Array TypeId} {m0 : Nat} (hm : s.L.length = m0) {x y z : Operand} {b l n0 : Nat} {xs zs : List I_Value} {a : I_Value} {i : Int} (hd : Nat.blt d n = true) (hx : evA σ x = .os b 0 n0) (hO : O[b]? = some (some ⟨.tr (eL xs), 29, 3⟩)) (hy : evA σ y = iA i) (hz : evA σ z = .os l 0 1) (hOl : O[l]? = some (some ⟨.tr (eL [a]), 29, 3⟩))
    (hb : Nat.ble m0 b = true) (hlb : Nat.beq l b = false) (hn : n0 = xs.length) (h : insM 32 xs i a = some zs)
    (kk : PL Tryd.prog n s ops rest Q (updA σ d (.os O.length 0 zs.length)) (O.set b none ++ [some ⟨.tr (eL zs), 29, 3⟩])) :
    PL Tryd.prog n s ops (⟨some d, .call { callee := .value (.func 67), args := #[x, y, z], argTypes := ats }, ty, pos, after, none⟩ :: rest) Q σ O := by
  unfold insM at h
  split at h
  case isFalse => cases h
  rename_i hc
  cases h
  obtain ⟨j, rfl⟩ := Int.eq_ofNat_of_zero_le hc.1
  subst hn
  refine ⟨fun M U σc w S hσ => ?_⟩
  have hb' : s.L.length ≤ b := by rw [hm]; exact Nat.le_of_ble_eq_true hb
  have hlb' : b ≠ l := fun e => by subst e; rw [Nat.beq_refl] at hlb; cases hlb
  have ex := evA_rel hσ x; rw [hx] at ex
  have ey := evA_rel hσ y; rw [hy] at ey
  have ez := evA_rel hσ z; rw [hz] at ez
  have hy' := ey.int
  obtain ⟨S1, hk⟩ := S.kill hb'
  obtain ⟨olds, hg, ho1, ho2, ho3⟩ := S.grw hb' hO (eL_all xs) (eL_len xs) ex
  generalize hz' : ev σc z = zv at ez
  cases ez with
  | osd _ _ _ _ _ hM => exact (S.own _ _ _ hOl hM).elim
  | os _ _ _ cap L hM hcap hn' hx1 =>
    obtain ⟨hLk, hle, cur, hcur, hsz, hr⟩ := S.own l _ _ hOl hM
    rw [eL_one] at hle hr
    have hle' : L.off + 3 ≤ cur.size := by rw [hsz]; simpa [Ob.cells, Cs.list, show (enc a).length = 3 from rfl] using hle
    have hvl : ((cur.toList.drop L.off).take 3).length = 3 := by simp; omega
    have hget : ∀ q u, ((cur.toList.drop L.off).take 3)[q]? = some u → q < 3 ∧ cur[L.off + q]? = some u := by
      intro q u hq
      rw [List.getElem?_take] at hq
      split at hq
      · rw [List.getElem?_drop] at hq; exact ⟨‹_›, by simpa using hq⟩
      · cases hq
    have hin : InM (M.set b .dead) L.blk := .ad (by rw [List.getElem?_set_ne hlb']; exact hM)
    have hcall := ins_core_Value (vc := cap) S1 hg ho2 ho1.symm ho3 (ds := enc a) hvl rfl (vb := L.blk) (vo := L.off + 0) (fun q u hq => by
        rw [Rd.addr_add, cell_of_row w _ _ cur _ _ hcur, Nat.add_zero]; exact (hget q u hq).2) (fun u hu => by
        obtain ⟨q, hq⟩ := mem_get hu
        obtain ⟨h1, h2⟩ := hget q u hq
        obtain ⟨y, g1, g2, _⟩ := hr q (.t ((enc a)[q]'h1)) (Rd.tr_get (List.getElem?_eq_getElem h1))
        rw [h2] at g1; cases g1; exact g2) (fun q c u h1 h2 => by
        obtain ⟨h3, h4⟩ := hget q u h2
        obtain ⟨y, g1, _, g3⟩ := hr q (.t c) (Rd.tr_get h1)
        rw [h4] at g1; cases g1
        cases g3 with | t _ _ g => exact g) hin hcur (i := j) (by omega) hc.2.2.1 hc.2.2.2
    refine LW.call hd (f := 67) (run_fcall (xs := [x, y, z]) Tryd.call67 (by rw [List.map_cons, List.map_cons, List.map_cons, List.map_nil, hy', hz'])) hcall ?_
    rintro e w' ⟨v', p, rfl, S', h1, h2⟩
    have e2 : (eL xs).take (j * 3) ++ enc a ++ (eL xs).drop (j * 3) = eL (xs.take ((j : Int).toNat) ++ a :: xs.drop ((j : Int).toNat)) := by
      rw [Int.toNat_natCast, eL_app, eL_cons, show j * 3 = j * (inferInstance : Enc I_Value).k from rfl, eL_take, eL_drop, List.append_assoc]
    rw [e2] at S'
    refine ⟨v', rfl, kk.h _ U _ w' S' (Rels.upd (fun t => h1 _ _ (hk _ _ (hσ t))) d ?_)⟩
    have e3 : (xs.take ((j : Int).toNat) ++ a :: xs.drop ((j : Int).toNat)).length = xs.length + 1 := by simp; omega
    rw [e3]; simpa using h2
theorem PL.del_Value {n : Nat} {s : Bs} {Q : APost} {σ : Fr} {O : Obs} {ops : Array Oper} {rest : List Oper} {d : Nat} {ty : TypeId} {pos : String} {after : Array Edge} {ats : Array TypeId} {m0 : Nat} (hm : s.L.length = m0) {x y z : Operand} {b n0 : Nat} {xs zs : List I_Value} {i j : Int} (hd : Nat.blt d n = true) (hx : evA σ x = .os b 0 n0) (hO : O[b]? = some (some ⟨.tr (eL xs), 29, 3⟩)) (hy : evA σ y = iA i) (hz : evA σ z = iA j)
    (hb : Nat.ble m0 b = true) (hn : n0 = xs.length) (h : delM xs i j = some zs)
    (kk : PL Tryd.prog n s ops rest Q (updA σ d (.os O.length 0 zs.length)) (O.set b none ++ [some ⟨.tr (eL zs), 29, 3⟩])) :
    PL Tryd.prog n s ops (⟨some d, .call { callee := .value (.func 68), args := #[x, y, z], argTypes := ats }, ty, pos, after, none⟩ :: rest) Q σ O := by
  unfold delM at h
  split at h
  case isFalse => cases h
  rename_i hc
  cases h
  obtain ⟨i, rfl⟩ := Int.eq_ofNat_of_zero_le hc.1
  obtain ⟨j, rfl⟩ := Int.eq_ofNat_of_zero_le (show 0 ≤ j by omega)
  subst hn
  refine ⟨fun M U σc w S hσ => ?_⟩
  have hb' : s.L.length ≤ b := by rw [hm]; exact Nat.le_of_ble_eq_true hb
  have ex := evA_rel hσ x; rw [hx] at ex
  have ey := evA_rel hσ y; rw [hy] at ey
  have ez := evA_rel hσ z; rw [hz] at ez
  have hy' := ey.int
  have hz' := ez.int
  obtain ⟨S1, hk⟩ := S.kill hb'
  obtain ⟨olds, hg, ho1, ho2, ho3⟩ := S.grw hb' hO (eL_all xs) (eL_len xs) ex
  rcases hg.2 with ⟨_, e'⟩ | ⟨B, o, cap, cur, hv, hnc, hcm, hcur, h2, h3, h4, h5⟩
  · omega
  rcases h5 with ⟨h6, _⟩ | ⟨rfl, hsz, htk⟩
  · omega
  have hcm' : cap ≤ 9223372036854775807 := hcm
  have hcl : (eL xs).length = xs.length * 3 := eL_len xs
  have hol : ∀ q, q < xs.length * 3 → cur[q]? = olds[q]? := fun q hq => by
    rw [← htk, List.getElem?_take, if_pos hq, Array.getElem?_toList]
  have hone : ∀ q u, q < xs.length * 3 → cur[q]? = some u → u.oneCell' = true := fun q u hq hu => ho2 u (by rw [hol q hq] at hu; exact get_mem hu)
  have hjn : j ≤ xs.length := by omega
  have hij : i ≤ j := by omega
  have hnk : (xs.length - (j - i)) * 3 ≤ cap * 3 := Nat.mul_le_mul_right _ (by omega)
  refine LW.call hd (f := 68) (run_fcall (xs := [x, y, z]) Tryd.call68 (by rw [List.map_cons, List.map_cons, List.map_cons, List.map_nil, hy', hz', hv])) (del_raw_Value w B xs.length cap i j cur hcur hsz hnc hcm' hij hjn hone) ?_
  rintro e w' ⟨rfl, hbx, new, g1, g2, g3⟩
  have hzl : (xs.take i ++ xs.drop j).length = xs.length - (j - i) := by simp; omega
  obtain ⟨S', hr'⟩ := S1.insX (w' := w') (L := ⟨B, cap * 3, 3⟩) (ob := ⟨.tr (eL (xs.take i ++ xs.drop j)), 29, 3⟩) (X := [B]) hbx (fun B' h => by simp at h; subst h; exact ⟨h2, h3, h4⟩) ⟨h2, h3, h4, (Array.getElem?_eq_some_iff.1 g1).1⟩
    ⟨new, rfl, by simp only [Ob.cells, Cs.list, List.length_map, eL_len, hzl, Loc.off, Nat.zero_add]; exact hnk, g1, by rw [g2, hsz], fun q c hq => by
      simp only [Ob.cells, Cs.list, List.getElem?_map] at hq
      cases hq' : (eL (xs.take i ++ xs.drop j))[q]? with
      | none => rw [hq'] at hq; cases hq
      | some t =>
        rw [hq'] at hq; simp at hq; subst hq
        have hql := (List.getElem?_eq_some_iff.1 hq').1
        rw [eL_len, hzl] at hql
        have hql : q < (xs.length - (j - i)) * 3 := hql
        rw [eL_app, ← eL_take, ← eL_drop] at hq'
        have hik : i * 3 ≤ xs.length * 3 := Nat.mul_le_mul_right _ (by omega)
        have hq2 : ((eL xs).take (i * 3) ++ (eL xs).drop (j * 3))[q]? = some t := hq'
        rw [List.getElem?_append, List.length_take, hcl, Nat.min_eq_left hik] at hq2
        show ∃ y, new[0 + q]? = some y ∧ _
        rw [Nat.zero_add, g3 q hql]
        have e5 : (xs.length - (j - i)) * 3 + (j - i) * 3 = xs.length * 3 := by rw [← Nat.add_mul]; congr 1; omega
        have e6 : (j - i) * 3 + i * 3 = j * 3 := by rw [← Nat.add_mul]; congr 1; omega
        by_cases h7 : q < i * 3
        · rw [if_pos h7, List.getElem?_take, if_pos h7] at hq2
          rw [if_pos h7, hol q (by omega)]
          have hy : olds[q]? = some (olds[q]'(by rw [ho1, hcl]; omega)) := List.getElem?_eq_getElem _
          exact ⟨_, hy, ho2 _ (get_mem hy), .t _ _ (ho3 q t _ hq2 hy)⟩
        · rw [if_neg h7, List.getElem?_drop] at hq2
          rw [if_neg h7, hol _ (by omega)]
          have hy : olds[q + (j - i) * 3]? = some (olds[q + (j - i) * 3]'(by rw [ho1, hcl]; omega)) := List.getElem?_eq_getElem _
          refine ⟨_, hy, ho2 _ (get_mem hy), .t _ _ (ho3 _ t _ ?_ hy)⟩
          rw [← hq2]; congr 1; omega⟩
  refine ⟨_, rfl, kk.h _ U _ w' S' (Rels.upd (fun t => hr' _ _ (hk _ _ (hσ t))) d ?_)⟩
  rw [Int.toNat_natCast, Int.toNat_natCast, hzl]
  have := Rel.os (w := w') (U := U) (M := M.set b .dead ++ [.ad ⟨B, cap * 3, 3⟩]) O.length 0 (xs.length - (j - i)) cap ⟨B, cap * 3, 3⟩ (snoc_new (by simp [S.len])) (by simp [Loc.off]) (by omega) hcm
  exact this
end V
end Go.Proofs.YtkjnnifnmoekjaaDoor
namespace Go.Proofs
open Go.Shelf
def Tryd.laysM171_ren : Go.Shelf.Ren := ⟨fun | 171 => 76 | 243 => 80 | 246 => 83 | 283 => 85 | 284 => 86 | 285 => 87 | 286 => 88 | 129 => 90 | 317 => 89 | 318 => 91 | 319 => 92 | 320 => 93 | 337 => 94 | 338 => 95 | n => n, fun | 3 => 3 | 9 => 9 | 2 => 2 | 4 => 4 | 171 => 110 | 0 => 0 | 53 => 111 | 37 => 22 | 5 => 5 | 173 => 114 | 212 => 116 | 51 => 117 | 20 => 20 | 213 => 118 | 46 => 119 | 232 => 122 | 233 => 123 | n => n, fun | 17 => 0 | 18 => 1 | 19 => 2 | n => n⟩
theorem Tryd.laysM171 : Go.Proofs.LaysM.n171 Tryd.prog Tryd.laysM171_ren := {
  mixed := by kernel_rfl
  f129 := Tryd.func90.trans (congrArg some (by kernel_rfl))
  f171 := Tryd.func76.trans (congrArg some (by kernel_rfl))
  f243 := Tryd.func80.trans (congrArg some (by kernel_rfl))
  f246 := Tryd.func83.trans (congrArg some (by kernel_rfl))
  f283 := Tryd.func85.trans (congrArg some (by kernel_rfl))
  f284 := Tryd.func86.trans (congrArg some (by kernel_rfl))
  f285 := Tryd.func87.trans (congrArg some (by kernel_rfl))
  f286 := Tryd.func88.trans (congrArg some (by kernel_rfl))
  f317 := Tryd.func89.trans (congrArg some (by kernel_rfl))
  f318 := Tryd.func91.trans (congrArg some (by kernel_rfl))
  f319 := Tryd.func92.trans (congrArg some (by kernel_rfl))
  f320 := Tryd.func93.trans (congrArg some (by kernel_rfl))
  f337 := Tryd.func94.trans (congrArg some (by kernel_rfl))
  f338 := Tryd.func95.trans (congrArg some (by kernel_rfl))
  t0 := Tryd.underlying0
  a0 := Tryd.isAgg0
  z0 := Tryd.sizeOf0
  v0 := Tryd.zeroValue0
  t2 := Tryd.underlying2
  a2 := Tryd.isAgg2
  z2 := Tryd.sizeOf2
  v2 := Tryd.zeroValue2
  t3 := Tryd.underlying3
  a3 := Tryd.isAgg3
  z3 := Tryd.sizeOf3
  v3 := Tryd.zeroValue3
  t4 := Tryd.underlying4
  a4 := Tryd.isAgg4
  z4 := Tryd.sizeOf4
  v4 := Tryd.zeroValue4
  t5 := Tryd.underlying5
  a5 := Tryd.isAgg5
  z5 := Tryd.sizeOf5
  v5 := Tryd.zeroValue5
  t9 := Tryd.underlying9
  a9 := Tryd.isAgg9
  z9 := Tryd.sizeOf9
  v9 := Tryd.zeroValue9
  t20 := Tryd.underlying20
  a20 := Tryd.isAgg20
  z20 := Tryd.sizeOf20
  v20 := Tryd.zeroValue20
  t37 := Tryd.underlying22
  a37 := Tryd.isAgg22
  z37 := Tryd.sizeOf22
  v37 := Tryd.zeroValue22
  t46 := Tryd.underlying119
  a46 := Tryd.isAgg119
  z46 := Tryd.sizeOf119
  v46 := Tryd.zeroValue119
  t51 := Tryd.underlying117
  a51 := Tryd.isAgg117
  z51 := Tryd.sizeOf117
  v51 := Tryd.zeroValue117
  t53 := Tryd.underlying111
  a53 := Tryd.isAgg111
  z53 := Tryd.sizeOf111
  v53 := Tryd.zeroValue111
  t171 := Tryd.underlying110
  a171 := Tryd.isAgg110
  z171 := Tryd.sizeOf110
  v171 := Tryd.zeroValue110
  t173 := Tryd.underlying114
  a173 := Tryd.isAgg114
  z173 := Tryd.sizeOf114
  v173 := Tryd.zeroValue114
  t212 := Tryd.underlying116
  a212 := Tryd.isAgg116
  z212 := Tryd.sizeOf116
  v212 := Tryd.zeroValue116
  t213 := Tryd.underlying118
  a213 := Tryd.isAgg118
  z213 := Tryd.sizeOf118
  t232 := Tryd.underlying122
  a232 := Tryd.isAgg122
  z232 := Tryd.sizeOf122
  v232 := Tryd.zeroValue122
  t233 := Tryd.underlying123
  a233 := Tryd.isAgg123
  z233 := Tryd.sizeOf123
  v233 := Tryd.zeroValue123
  g17 := by kernel_rfl
  g18 := by kernel_rfl
  g19 := by kernel_rfl
  i0 := by kernel_rfl
  i2 := by kernel_rfl
  i3 := by kernel_rfl
  i4 := by kernel_rfl
  i5 := by kernel_rfl
  i9 := by kernel_rfl
  i20 := by kernel_rfl
  i37 := by kernel_rfl
  i46 := by kernel_rfl
  i51 := by kernel_rfl
  i53 := by kernel_rfl
  i171 := by kernel_rfl
  i173 := by kernel_rfl
  i212 := by kernel_rfl
  i232 := by kernel_rfl
  i233 := by kernel_rfl
  m17 := by kernel_rfl
  m18 := by kernel_rfl
  m19 := by kernel_rfl }
end Go.Proofs
namespace Go.Proofs.YtkjnnifnmoekjaaDoor
namespace V
open Go.Sort
set_option linter.unusedVariables false
set_option linter.unusedSimpArgs false
def itoaB (n : Int) : ByteArray := ⟨(Lib.itoa n).toArray⟩
def m_strconv_Itoa (N : Nat) (p_i : Int) : Option ByteArray := if -9223372036854775808 ≤ p_i ∧ p_i ≤ 9223372036854775807 then some (itoaB p_i) else none
theorem w_strconv_Itoa (N : Nat) (p_i : Int) (r : ByteArray) (hh0 : m_strconv_Itoa N p_i = some r) : FnX Tryd.prog 76 [] [iA p_i] (RE (sA r) []) := by
  unfold m_strconv_Itoa at hh0
  split at hh0
  case isFalse => cases hh0
  rename_i hb
  obtain rfl := (Option.some.inj hh0).symm
  intro s U av S hV ha
  obtain ⟨hal, har⟩ := ha
  obtain ⟨y, rfl⟩ : ∃ y, av = [y] := List.length_eq_one_iff.1 hal
  obtain rfl := Rel.int (har 0 _ y rfl rfl)
  obtain ⟨g, _, _, htab⟩ := S.tab
  refine (Any.strconv_Itoa Tryd.laysM171 p_i hb.1 hb.2 s.w htab).mono ?_
  rintro e w' ⟨rfl, k, os, rfl⟩
  refine ⟨_, sA (itoaB p_i), [], s.L, U, rfl, ⟨rfl, rfl⟩, .t _ _ (.v _ rfl), S.below ⟨rfl, rfl, rfl, by simp, fun B hB => ?_⟩⟩
  exact heap_grow_old _ _ (by simpa using hB)
end V
end Go.Proofs.YtkjnnifnmoekjaaDoor
