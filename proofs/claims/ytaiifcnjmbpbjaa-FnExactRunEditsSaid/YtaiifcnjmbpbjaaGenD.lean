/- append of what a source yields: of a text's bytes, too. No condition. -/
import Derived.Test.YtaiifcnjmbpbjaaGenC
import Derived.Deep.AppendSrc
namespace Go.Proofs.Ytaiifcnjmbpbjaa
namespace V
set_option linter.unusedVariables false
set_option linter.unusedSimpArgs false
open Go.RowKit
section
variable {P : Program} {n : Nat} {s : Bs} {Q : APost} {σ : Fr} {O : Obs} {ops : Array Oper} {rest : List Oper} {d : Nat} {ty : TypeId} {pos : String} {after : Array Edge}
theorem run_append_room_g (w : World) (t tx ty e : TypeId) (i : TypeInfo) (ht : P.underlying t = some (.slice e)) (hi : P.info? e = some i) (g sLen sCap : Nat) (cur : Array Value) (hg : w.heap[g]? = some (.cells cur e (0, 0)))
    (x : Value) (m : Nat) (news : List Value) (hs : Src P i.size tx x m news w) (hroom : sLen + m ≤ sCap) (hfit : sLen * i.size + news.length ≤ cur.size) :
    (Builtin.append_ #[t, tx] ty #[.slice (some ⟨g, 0, none⟩) sLen sCap, x]).run P w =
      .ok (.slice (some ⟨g, 0, none⟩) (sLen + m) sCap) (w.setRow g (cur.toList.take (sLen * i.size) ++ news ++ cur.toList.drop (sLen * i.size + news.length)).toArray) := by
  have hst := run_storeCells_at P g (sLen * i.size) e news 0 cur w hg (by simpa using hfit) hs.one
  simp only [Nat.add_zero] at hst
  rcases hs.kind with ⟨e', hk⟩ | hk <;> simp [Builtin.append_, run_underlying ht, run_underlying hk, sizeOf, typeInfo, hi, hs.len, hroom, hs.cells, Addr.add_lit, hst]
theorem append_coreG {M : Mp} {U : Nat → Prop} {w : World} (S : Mem s M O U w) {t ty e : TypeId} {k bytes : Nat} [T : CSl P t e] [Z : CE P e k bytes] {v : Value} {m0 : Nat} {olds : List Value} (hv : Grw s M U w e k v m0 olds)
    {xv : Value} {tx : TypeId} {m : Nat} {news : List Value} (hs : Src P k tx xv m news w) (h1o : ∀ u ∈ olds, u.oneCell' = true)
    {cs ds : List Tr} (hcs : cs.length = olds.length) (hds : ds.length = news.length) (hco : ∀ (j : Nat) c y, cs[j]? = some c → olds[j]? = some y → TRel w U c y) (hcn : ∀ (j : Nat) c y, ds[j]? = some c → news[j]? = some y → TRel w U c y)
    (hbytes : (m0 + m) * bytes ≤ 140737488355328) (h63 : m0 + m ≤ 4611686018427387904) :
    ∃ v' w' x, (Builtin.append_ #[t, tx] ty #[v, xv]).run P w = .ok v' w' ∧ Mem s (M ++ [x]) (O ++ [some ⟨.tr (cs ++ ds), e, k⟩]) U w' ∧ (∀ c z, Rel w U M c z → Rel w' U (M ++ [x]) c z) ∧ Rel w' U (M ++ [x]) (.os O.length 0 (m0 + m)) v' ∧ BelowX (vBlk v) w w' := by
  obtain ⟨i, z, hi, hz, hk, hby, hzk⟩ := Z.ex
  subst hk; subst hby
  have hl := hs.newsLen
  have h1 := hs.one
  have hml : maxLen = 9223372036854775807 := rfl
  have hcells : ∀ (cur : Array Value) (o : Nat), o = 0 → (∀ j, j < (cs ++ ds).length → cur[j]? = (olds ++ news)[j]?) → ∀ (j : Nat) c, (Ob.cells ⟨.tr (cs ++ ds), e, i.size⟩)[j]? = some c → ∃ y, cur[o + j]? = some y ∧ y.oneCell' = true ∧ Rel w U M c y := by
    intro cur o ho hcur j c hc
    subst ho
    simp only [Ob.cells, Cs.list, List.getElem?_map] at hc
    cases hq : (cs ++ ds)[j]? with
    | none => rw [hq] at hc; cases hc
    | some q =>
      rw [hq] at hc; simp at hc; subst hc
      have hj := (List.getElem?_eq_some_iff.1 hq).1
      have hlen : (olds ++ news).length = (cs ++ ds).length := by simp [hcs, hds]
      have hy : (olds ++ news)[j]? = some ((olds ++ news)[j]'(by omega)) := List.getElem?_eq_getElem _
      refine ⟨_, by rw [Nat.zero_add, hcur j hj]; exact hy, ?_, .t _ _ ?_⟩
      · rcases List.mem_append.1 (get_mem hy) with h | h
        · exact h1o _ h
        · exact h1 _ h
      · rcases Nat.lt_or_ge j cs.length with h | h
        · rw [List.getElem?_append_left h] at hq
          rw [List.getElem?_append_left (by omega)] at hy
          exact hco j _ _ hq hy
        · rw [List.getElem?_append_right h] at hq
          rw [List.getElem?_append_right (by omega), ← hcs] at hy
          exact hcn _ _ _ hq hy
  have hob : (Ob.cells ⟨.tr (cs ++ ds), e, i.size⟩).length = (m0 + m) * i.size := by simp [Ob.cells, Cs.list, hcs, hds, hv.1, hl, Nat.add_mul]
  have hcslen : (cs ++ ds).length = (m0 + m) * i.size := by simp [hcs, hds, hv.1, hl, Nat.add_mul]
  have hsz0 : ∀ B, B < w.heap.size → B ≠ w.heap.size := fun B h e => by omega
  have hnoU : ¬ U w.heap.size := fun h => by have := (S.u _ h).1.1; omega
  have hnoM : ¬ InM M w.heap.size := fun h => by have := S.lt _ h; omega
  by_cases hm : m = 0
  · subst hm
    have hn : news = [] := List.eq_nil_of_length_eq_zero (by simpa using hl)
    subst hn
    have hd0 : ds = [] := List.eq_nil_of_length_eq_zero (by simpa using hds)
    subst hd0
    have hsrc := hs
    rcases hv.2 with ⟨rfl, rfl⟩ | ⟨B, o, cap, cur, rfl, hnc, hcm, hcur, h2, h3, h4, h5⟩
    · have hc0 : cs = [] := List.eq_nil_of_length_eq_zero (by rw [hcs, hv.1]; simp)
      subst hc0
      obtain ⟨S', hr⟩ := S.insN e i.size (Below.refl _ w)
      exact ⟨_, w, .nl, run_append_nothing w t tx ty e i T.u hi none 0 0 (Nat.le_refl _) _ hsrc, S', hr, .osn _ (snoc_new S.len.symm), BelowX.refl _ _⟩
    · have hr0 := run_append_nothing w t tx ty e i T.u hi (some ⟨B, o, none⟩) m0 cap hnc _ hsrc
      rcases h5 with ⟨h6, h7⟩ | ⟨h6, h7, h8⟩
      · have hc0 : cs = [] := List.eq_nil_of_length_eq_zero (by rw [hcs, hv.1, h6]; simp)
        subst hc0
        obtain ⟨S', hr⟩ := S.insX (L := ⟨B, cur.size, i.size⟩) (ob := ⟨.tr ([] ++ []), e, i.size⟩) (X := []) (BelowX.refl _ w) (fun B h => by simp at h) ⟨h2, h3, h4, (Array.getElem?_eq_some_iff.1 hcur).1⟩ ⟨cur, rfl, by simp [Ob.cells, Cs.list, Loc.off], hcur, rfl, fun j c h => by simp [Ob.cells, Cs.list] at h⟩
        subst h6; subst h7
        exact ⟨_, w, _, hr0, S', hr, by have := Rel.osz (w := w) (U := U) (M := M ++ [Pl.ad ⟨B, cur.size, i.size⟩]) O.length 0 o ⟨B, cur.size, i.size⟩ (snoc_new S.len.symm); simpa using this, BelowX.refl _ _⟩
      · subst h6
        have hle : m0 * i.size ≤ cap * i.size := Nat.mul_le_mul_right _ hnc
        obtain ⟨S', hr⟩ := S.insX (L := ⟨B, cur.size, i.size⟩) (ob := ⟨.tr (cs ++ []), e, i.size⟩) (X := []) (BelowX.refl _ w) (fun B h => by simp at h) ⟨h2, h3, h4, (Array.getElem?_eq_some_iff.1 hcur).1⟩
          ⟨cur, rfl, by rw [hob, h7]; simpa [Loc.off] using hle, hcur, rfl, hcells cur 0 rfl (fun j hj => by
            rw [hcslen] at hj
            rw [List.append_nil, ← h8, List.getElem?_take, if_pos (by simpa using hj)]; simp)⟩
        exact ⟨_, w, _, hr0, S', hr, by have := Rel.os (w := w) (U := U) (M := M ++ [Pl.ad ⟨B, cur.size, i.size⟩]) O.length 0 m0 cap ⟨B, cur.size, i.size⟩ (snoc_new S.len.symm) (by simp [h7, Loc.off]) hnc hcm; exact this, BelowX.refl _ _⟩
  · have fresh : ∀ (old : Nat), old < m0 + m →
        ∃ w' x, w' = w.drew.alloc (.cells ((olds ++ news).toArray ++ Builtin.zeroCells z.cells (grownCap w (m0 + m) old e - (m0 + m))) e) ∧ Mem s (M ++ [x]) (O ++ [some ⟨.tr (cs ++ ds), e, i.size⟩]) U w' ∧ (∀ c z, Rel w U M c z → Rel w' U (M ++ [x]) c z) ∧ Rel w' U (M ++ [x]) (.os O.length 0 (m0 + m)) (.slice (some ⟨w.heap.size, 0, none⟩) (m0 + m) (grownCap w (m0 + m) old e)) ∧ ∀ X, BelowX X w w' := by
      intro old ho
      have hge := grownCap_ge w (m0 + m) old e
      have hcm : grownCap w (m0 + m) old e ≤ maxLen := grownCap_le_maxLen w (m0 + m) old e (by omega)
      have hsize : ((olds ++ news).toArray ++ Builtin.zeroCells z.cells (grownCap w (m0 + m) old e - (m0 + m))).size = grownCap w (m0 + m) old e * i.size := by
        simp only [Array.size_append, List.size_toArray, List.length_append, size_zeroCells, hzk, hv.1, hl, ← Nat.add_mul]
        congr 1; omega
      obtain ⟨S', hr⟩ := S.insX (w' := w.drew.alloc (.cells ((olds ++ news).toArray ++ Builtin.zeroCells z.cells (grownCap w (m0 + m) old e - (m0 + m))) e)) (L := ⟨w.heap.size, grownCap w (m0 + m) old e * i.size, i.size⟩) (ob := ⟨.tr (cs ++ ds), e, i.size⟩) (X := [])
        (BelowX.of _ (((Below.refl _ _).drew).alloc (Nat.le_refl _) _)) (fun B h => by simp at h) ⟨hnoM, hnoU, S.base.size, by simp⟩
        ⟨_, rfl, by rw [hob]; simpa [Loc.off] using Nat.mul_le_mul_right i.size hge, heap_alloc_new w.drew _, hsize, hcells _ 0 rfl (fun j hj => by
          have hj' : j < (olds ++ news).length := by simp [← hcs, ← hds]; simpa using hj
          rw [← Array.getElem?_toList]
          simp only [Array.toList_append]
          rw [List.getElem?_append_left (by simpa using hj')])⟩
      exact ⟨_, _, rfl, S', hr, .os _ _ _ _ ⟨w.heap.size, grownCap w (m0 + m) old e * i.size, i.size⟩ (snoc_new S.len.symm) (by simp [Loc.off]) hge hcm, fun X => BelowX.of _ (((Below.refl _ _).drew).alloc (Nat.le_refl _) _)⟩
    rcases hv.2 with ⟨rfl, rfl⟩ | ⟨B, o, cap, cur, rfl, hnc, hcm, hcur, h2, h3, h4, h5⟩
    · have hx : olds = [] := List.eq_nil_of_length_eq_zero (by simpa using hv.1)
      subst hx
      have hr := run_append_grow_src (P := P) w t tx ty e i z T.u hi hz none 0 0 [] (run_firstCells_none w.drew i.size 0 0 0) xv m news hs (by omega) (by omega) (growslice_fits (by omega) hbytes)
      obtain ⟨w', x, rfl, S', hr', hR, hBX⟩ := fresh 0 (by omega)
      exact ⟨_, _, _, hr, S', hr', hR, hBX _⟩
    · rcases h5 with ⟨h6, h7⟩ | ⟨h6, h7, h8⟩
      · subst h6; subst h7
        have hx : olds = [] := List.eq_nil_of_length_eq_zero (by simpa using hv.1)
        subst hx
        have hr := run_append_grow_src (P := P) w t tx ty e i z T.u hi hz (some ⟨B, o, none⟩) 0 0 [] (run_firstCells_some w.drew i.size 0 ⟨B, o, none⟩ 0 0 [] (by simp) (fun j v h => by simp at h)) xv m news hs (by omega) (by omega) (growslice_fits (by omega) hbytes)
        obtain ⟨w', x, rfl, S', hr', hR, hBX⟩ := fresh 0 (by omega)
        exact ⟨_, _, _, hr, S', hr', hR, hBX _⟩
      · subst h6
        by_cases hroom : m0 + m ≤ cap
        · have hfit : m0 * i.size + news.length ≤ cur.size := by rw [hl, h7, ← Nat.add_mul]; exact Nat.mul_le_mul_right _ hroom
          have hr := run_append_room_g (P := P) w t tx ty e i T.u hi B m0 cap cur hcur xv m news hs hroom hfit
          let new := (cur.toList.take (m0 * i.size) ++ news ++ cur.toList.drop (m0 * i.size + news.length)).toArray
          have hnsz : new.size = cap * i.size := by
            simp only [new, List.size_toArray, List.length_append, List.length_take, List.length_drop, Array.length_toList]
            omega
          obtain ⟨S', hr'⟩ := S.insX (w' := w.setRow B new) (L := ⟨B, cap * i.size, i.size⟩) (ob := ⟨.tr (cs ++ ds), e, i.size⟩) (X := [B]) ⟨rfl, rfl, rfl, by simp, fun k hk hx => setRow_other _ _ _ _ (by simpa using hx)⟩ (fun B' h => by simp at h; subst h; exact ⟨h2, h3, h4⟩) ⟨h2, h3, h4, by simpa using (Array.getElem?_eq_some_iff.1 hcur).1⟩
            ⟨new, rfl, by rw [hob]; simpa [Loc.off] using Nat.mul_le_mul_right i.size hroom, setRow_heap _ _ _ _ _ _ hcur, hnsz, hcells _ 0 rfl (fun j hj => by
              have hj' : j < (olds ++ news).length := by simp [← hcs, ← hds]; simpa using hj
              simp only [new, List.getElem?_toArray]
              rw [h8, List.getElem?_append_left hj'])⟩
          exact ⟨_, _, _, hr, S', hr', .os _ _ _ _ ⟨B, cap * i.size, i.size⟩ (snoc_new S.len.symm) (by simp [Loc.off]) hroom hcm, ⟨rfl, rfl, rfl, by simp, fun k hk hx => setRow_other _ _ _ _ (by simpa [vBlk] using hx)⟩⟩
        · have holds : ∀ j u, olds[j]? = some u → w.cell? ((⟨B, 0, none⟩ : Addr).add j) = some u := by
            intro j u hu
            rw [Rd.addr_add, Nat.zero_add, cell_of_row w _ _ cur _ _ hcur, ← Array.getElem?_toList, ← hu, ← h8, List.getElem?_take, if_pos]
            have := (List.getElem?_eq_some_iff.1 hu).1; rw [hv.1] at this; exact this
          have hr := run_append_grow_src (P := P) w t tx ty e i z T.u hi hz (some ⟨B, 0, none⟩) m0 cap olds (run_firstCells_some w.drew i.size m0 ⟨B, 0, none⟩ m0 cap olds hv.1 (by simpa using holds)) xv m news hs (by omega) (by omega) (growslice_fits (by omega) hbytes)
          obtain ⟨w', x, rfl, S', hr', hR, hBX⟩ := fresh cap (by omega)
          exact ⟨_, _, _, hr, S', hr', hR, hBX _⟩

/-- The bytes of a text. -/
def bytesL (x : ByteArray) : List UInt8 := x.data.toList
theorem bytesL_len (x : ByteArray) : (bytesL x).length = x.size := Array.length_toList
theorem byteCells_get {x : ByteArray} {j : Nat} {c : Tr} {y : Value} {w : World} {U : Nat → Prop} (h1 : (eL (bytesL x))[j]? = some c) (h2 : (byteCells x)[j]? = some y) : TRel w U c y := by
  rw [eL_u8map, List.getElem?_map] at h1
  unfold byteCells at h2
  rw [List.getElem?_map] at h2
  unfold bytesL at h1
  cases hq : x.data.toList[j]? with
  | none => rw [hq] at h1; cases h1
  | some q => rw [hq] at h1 h2; cases h1; cases h2; exact .v _ rfl
/-- append(xs, text...) to a slice of the call's own. -/
theorem PL.apS {m0 : Nat} (hm : s.L.length = m0) {t e' tx : TypeId} {x y : Operand} {b n0 : Nat} {xs zs : List UInt8} {v : ByteArray} [T : CSl P t e'] [Z : CE P e' 1 1] (hd : Nat.blt d n = true) (hx : evA σ x = .os b 0 n0) (hO : O[b]? = some (some ⟨.tr (eL xs), e', 1⟩)) (hy : evA σ y = .t (.v (.string v)))
    (htx : P.underlying tx = some .string) (hb : Nat.ble m0 b = true) (hn : n0 = xs.length) (h : appM 1 xs (bytesL v) = some zs)
    (kk : PL P n s ops rest Q (updA σ d (.os O.length 0 zs.length)) (O.set b none ++ [some ⟨.tr (eL zs), e', 1⟩])) :
    PL P n s ops (⟨some d, .call { callee := .builtin .append, args := #[x, y], argTypes := #[t, tx] }, ty, pos, after, none⟩ :: rest) Q σ O := by
  obtain ⟨rfl, h2, h3⟩ := appM_spec h
  subst hn
  refine PL.eff hd (fun M U w σc S hσ => ?_) kk
  have hb' : s.L.length ≤ b := by rw [hm]; exact Nat.le_of_ble_eq_true hb
  have ex := evA_rel hσ x; rw [hx] at ex
  have ey := evA_rel hσ y; rw [hy] at ey
  have hyv : ev σc y = .string v := Rel.int ey
  obtain ⟨S1, hk⟩ := S.kill hb'
  obtain ⟨olds, hg, ho1, ho2, ho3⟩ := S.grw hb' hO (eL_all xs) (eL_len xs) ex
  have hs := Src.ofString (P := P) w htx v
  have hbl := bytesL_len v
  obtain ⟨v', w', p, hrun, S', hrel, hres, _⟩ := append_coreG (P := P) (t := t) (ty := ty) (k := 1) S1 hg hs ho2 ho1.symm (ds := eL (bytesL v)) (by rw [eL_len, byteCells_length, hbl]; exact Nat.mul_one _) ho3 (fun j c y h1 h2 => byteCells_get h1 h2) (by rw [hbl] at h2; exact h2) (by rw [hbl] at h3; exact h3)
  refine ⟨v', w', _, Yl.mk fun d pos after g => ?_, by rw [eL_app]; exact S', ?_, fun c z h => hrel _ _ (hk _ _ h)⟩
  · simp [execOp, resolve, invoke, builtin, hyv, hrun]
  · rw [List.length_append, hbl]; simpa using hres
end
end V
end Go.Proofs.Ytaiifcnjmbpbjaa
