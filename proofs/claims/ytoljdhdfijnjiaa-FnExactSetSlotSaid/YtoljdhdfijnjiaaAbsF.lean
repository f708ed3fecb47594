/- append, literals of slices, make, literals of structs, slice expressions. No condition. -/
import Derived.Test.YtoljdhdfijnjiaaAbsE
namespace Go.Proofs.Ytoljdhdfijnjiaa
namespace V
set_option linter.unusedVariables false
set_option linter.unusedSimpArgs false
open Go.RowKit

section
variable {P : Program} {n : Nat} {s : Bs} {Q : APost} {σ : Fr} {O : Obs} {ops : Array Oper} {rest : List Oper} {d : Nat} {ty : TypeId} {pos : String} {after : Array Edge}
/-- A name dies. -/
theorem Mem.kill {M : Mp} {U : Nat → Prop} {w : World} {b : Nat} (S : Mem s M O U w) (hb : s.L.length ≤ b) : Mem s (M.set b .dead) (O.set b none) U w ∧ (∀ c z, Rel w U M c z → Rel w U (M.set b .dead) c z) := by
  have hget : ∀ (b' : Nat) x, (M.set b .dead)[b']? = some x → (b' = b ∧ x = .dead) ∨ (b' ≠ b ∧ M[b']? = some x) := by
    intro b' x h
    by_cases e : b' = b
    · subst e
      have hlt : b' < M.length := by have := (List.getElem?_eq_some_iff.1 h).1; simpa using this
      rw [List.getElem?_set_self hlt] at h; cases h; exact .inl ⟨rfl, rfl⟩
    · rw [List.getElem?_set_ne (Ne.symm e)] at h; exact .inr ⟨e, h⟩
  have hput : ∀ (b' : Nat) x, M[b']? = some x → (b' = b ∧ (M.set b .dead)[b']? = some .dead) ∨ (b' ≠ b ∧ (M.set b .dead)[b']? = some x) := by
    intro b' x h
    by_cases e : b' = b
    · subst e; exact .inl ⟨rfl, List.getElem?_set_self (List.getElem?_eq_some_iff.1 h).1⟩
    · exact .inr ⟨e, by rw [List.getElem?_set_ne (Ne.symm e)]; exact h⟩
  have hin : ∀ B, InM (M.set b .dead) B → InM M B := by
    rintro B ⟨b', L, h1, h2⟩
    rcases hget b' _ h1 with ⟨_, h3⟩ | ⟨_, h3⟩
    · cases h3
    · exact ⟨b', L, h3, h2⟩
  have hrel : ∀ c z, Rel w U M c z → Rel w U (M.set b .dead) c z := by
    intro c z h
    induction h with
    | any y => exact .any y
    | t c y h => exact .t c y h
    | os b' j n cap L h hc hn hx => rcases hput b' _ h with ⟨_, h1⟩ | ⟨_, h1⟩; exact .osd _ _ _ _ rfl h1; exact .os _ _ _ _ L h1 hc hn hx
    | osn b' h => rcases hput b' _ h with ⟨_, h1⟩ | ⟨_, h1⟩; exact .osd _ _ _ _ rfl h1; exact .osn _ h1
    | osd b' j n y h1' h => rcases hput b' _ h with ⟨_, h1⟩ | ⟨_, h1⟩ <;> exact .osd _ _ _ _ h1' h1
    | opd b' j y h1' h => rcases hput b' _ h with ⟨_, h1⟩ | ⟨_, h1⟩ <;> exact .opd _ _ _ h1' h1
    | osz b' j o L h => rcases hput b' _ h with ⟨_, h1⟩ | ⟨_, h1⟩; exact .osd _ _ _ _ rfl h1; exact .osz _ _ _ L h1
    | op b' j L h => rcases hput b' _ h with ⟨_, h1⟩ | ⟨_, h1⟩; exact .opd _ _ _ rfl h1; exact .op _ _ L h1
    | fn f cs ys hl _ ih => exact .fn f cs ys hl ih
    | agg cs ys hl h1 _ ih => exact .agg cs ys hl h1 ih
    | tup cs ys hl _ ih => exact .tup cs ys hl ih
  refine ⟨⟨S.base, fun b' x h => ?_, by simp [S.len], fun B hB => S.lt B (hin B hB), fun B hB => S.fresh B (hin B hB), ?_, ?_, fun B hB => ⟨⟨(S.u B hB).1.1, fun h => (S.u B hB).1.2 (hin B h)⟩, (S.u B hB).2⟩⟩, hrel⟩
  · have hlt := (List.getElem?_eq_some_iff.1 h).1
    rw [List.getElem?_set_ne (by omega)]; exact S.lent b' x h
  · intro b1 b2 L1 L2 h1 h2 e
    rcases hget b1 _ h1 with ⟨_, h3⟩ | ⟨_, h3⟩
    · cases h3
    · rcases hget b2 _ h2 with ⟨_, h4⟩ | ⟨_, h4⟩
      · cases h4
      · exact S.one b1 b2 L1 L2 h3 h4 e
  · intro b1 ob x hO hM
    rcases hget b1 _ hM with ⟨e, h3⟩ | ⟨e, h3⟩
    · subst e
      have hlt : b1 < O.length := by have := (List.getElem?_eq_some_iff.1 hO).1; simpa using this
      rw [List.getElem?_set_self hlt] at hO; cases hO
    · rw [List.getElem?_set_ne (Ne.symm e)] at hO
      have := S.own b1 ob x hO h3
      cases x with
      | nl => exact this
      | dead => exact this
      | ad L =>
        obtain ⟨h1, h2, cur, h5, h6, h7⟩ := this
        exact ⟨h1, h2, cur, h5, h6, fun j c hc => by obtain ⟨y, g1, g2, g3⟩ := h7 j c hc; exact ⟨y, g1, g2, hrel _ _ g3⟩⟩
/-- A block that nothing else knows becomes the call's own; such blocks may have been written. -/
theorem Mem.insX {M : Mp} {U : Nat → Prop} {w w' : World} {L : Loc} {ob : Ob} {X : List Nat} (S : Mem s M O U w) (hb : BelowX X w w') (hX : ∀ B, B ∈ X → ¬ InM M B ∧ ¬ U B ∧ s.w.heap.size ≤ B) (hL : ¬ InM M L.blk ∧ ¬ U L.blk ∧ s.w.heap.size ≤ L.blk ∧ L.blk < w'.heap.size)
    (hB : ∃ cur : Array Value, L.k = ob.k ∧ L.off + ob.cells.length ≤ L.size ∧ w'.heap[L.blk]? = some (.cells cur ob.ty (0, 0)) ∧ cur.size = L.size ∧ ∀ (j : Nat) c, ob.cells[j]? = some c → ∃ y, cur[L.off + j]? = some y ∧ y.oneCell' = true ∧ Rel w U M c y) :
    Mem s (M ++ [.ad L]) (O ++ [some ob]) U w' ∧ (∀ c z, Rel w U M c z → Rel w' U (M ++ [.ad L]) c z) := by
  have hsame : ∀ B, U B → w'.heap[B]? = w.heap[B]? := fun B hB => hb.block B (S.u B hB).1.1 (fun h => (hX B h).2.1 hB)
  have hrel : ∀ c z, Rel w U M c z → Rel w' U (M ++ [.ad L]) c z := fun c z h => h.mono hsame (fun B hB => hB) (fun b x e => snoc_old e)
  refine ⟨⟨?_, fun b x h => snoc_old (S.lent b x h), by simp [S.len], ?_, ?_, ?_, ?_, fun B hB => ⟨⟨Nat.lt_of_lt_of_le (S.u B hB).1.1 hb.size, ?_⟩, (S.u B hB).2⟩⟩, hrel⟩
  · refine ⟨hb.os.trans S.base.os, hb.tape.trans S.base.tape, hb.output.trans S.base.output, Nat.le_trans S.base.size hb.size, fun k hk hx => ?_⟩
    rw [hb.block k (Nat.lt_of_lt_of_le hk S.base.size) (fun h => by have := (hX k h).2.2; omega)]
    exact S.base.block k hk hx
  · rintro B ⟨b, L', h1, rfl⟩
    rcases snoc_get h1 with h3 | ⟨_, h3⟩
    · exact Nat.lt_of_lt_of_le (S.lt _ ⟨b, L', h3, rfl⟩) hb.size
    · cases h3; exact hL.2.2.2
  · rintro B ⟨b, L', h1, rfl⟩
    rcases snoc_get h1 with h3 | ⟨_, h3⟩
    · exact S.fresh _ ⟨b, L', h3, rfl⟩
    · cases h3; exact .inl hL.2.2.1
  · intro b b' L1 L2 h1 h2 e
    rcases snoc_get h1 with h3 | ⟨h3, h3'⟩ <;> rcases snoc_get h2 with h4 | ⟨h4, h4'⟩
    · exact S.one b b' L1 L2 h3 h4 e
    · cases h4'; exact absurd ⟨b, L1, h3, e⟩ hL.1
    · cases h3'; exact absurd ⟨b', L2, h4, e.symm⟩ hL.1
    · omega
  · intro b ob' x hO hM
    rcases snoc_get hM with h3 | ⟨h3, h3'⟩
    · have hO' : O[b]? = some (some ob') := by
        rcases snoc_get hO with h4 | ⟨h4, _⟩
        · exact h4
        · have := (List.getElem?_eq_some_iff.1 h3).1; rw [S.len] at this; omega
      have := S.own b ob' x hO' h3
      cases x with
      | nl => exact this
      | dead => exact this
      | ad L' =>
        obtain ⟨h1, h2, cur, h5, h6, h7⟩ := this
        refine ⟨h1, h2, cur, by rw [hb.block _ (S.lt _ ⟨b, L', h3, rfl⟩) (fun h => (hX _ h).1 ⟨b, L', h3, rfl⟩)]; exact h5, h6, fun j c hc => ?_⟩
        obtain ⟨y, hy, hy1, hy2⟩ := h7 j c hc
        exact ⟨y, hy, hy1, hrel _ _ hy2⟩
    · subst h3'
      rcases snoc_get hO with h4 | ⟨h4, h4'⟩
      · have := (List.getElem?_eq_some_iff.1 h4).1; rw [h3, S.len] at this; omega
      · cases h4'
        obtain ⟨cur, h1, h2, h5, h6, h7⟩ := hB
        refine ⟨h1, h2, cur, h5, h6, fun j c hc => ?_⟩
        obtain ⟨y, hy, hy1, hy2⟩ := h7 j c hc
        exact ⟨y, hy, hy1, hrel _ _ hy2⟩
  · rintro ⟨b, L', h1, h2⟩
    rcases snoc_get h1 with h3 | ⟨_, h3⟩
    · exact (S.u B hB).1.2 ⟨b, L', h3, h2⟩
    · cases h3; subst h2; exact hL.2.1 hB

/-- What an append finds: nil, or a block that nothing else knows. -/
def Grw (s : Bs) (M : Mp) (U : Nat → Prop) (w : World) (e : TypeId) (k : Nat) (v : Value) (n : Nat) (olds : List Value) : Prop :=
  olds.length = n * k ∧ ((v = .slice none 0 0 ∧ n = 0) ∨ ∃ B o cap cur, v = .slice (some ⟨B, o, none⟩) n cap ∧ n ≤ cap ∧ cap ≤ maxLen ∧ w.heap[B]? = some (.cells cur e (0, 0)) ∧ ¬ InM M B ∧ ¬ U B ∧ s.w.heap.size ≤ B ∧
    ((n = 0 ∧ cap = 0) ∨ (o = 0 ∧ cur.size = cap * k ∧ cur.toList.take (n * k) = olds)))
/-- The block that an append may write. -/
def vBlk : Value → List Nat
  | .slice (some a) _ _ => [a.block]
  | _ => []
theorem append_core {M : Mp} {U : Nat → Prop} {w : World} (S : Mem s M O U w) {t ty e : TypeId} {k bytes : Nat} [T : CSl P t e] [Z : CE P e k bytes] {v : Value} {m0 : Nat} {olds : List Value} (hv : Grw s M U w e k v m0 olds)
    {ad : Option Addr} {m c : Nat} {news : List Value} (hl : news.length = m * k) (hnews : m = 0 ∨ ∃ a, ad = some a ∧ ∀ j u, news[j]? = some u → w.cell? (a.add j) = some u) (h1 : ∀ u ∈ news, u.oneCell' = true) (h1o : ∀ u ∈ olds, u.oneCell' = true)
    {cs ds : List Tr} (hcs : cs.length = olds.length) (hds : ds.length = news.length) (hco : ∀ (j : Nat) c y, cs[j]? = some c → olds[j]? = some y → TRel w U c y) (hcn : ∀ (j : Nat) c y, ds[j]? = some c → news[j]? = some y → TRel w U c y)
    (hbytes : (m0 + m) * bytes ≤ 140737488355328) (h63 : m0 + m ≤ 4611686018427387904) :
    ∃ v' w' x, (Builtin.append_ #[t, t] ty #[v, .slice ad m c]).run P w = .ok v' w' ∧ Mem s (M ++ [x]) (O ++ [some ⟨.tr (cs ++ ds), e, k⟩]) U w' ∧ (∀ c z, Rel w U M c z → Rel w' U (M ++ [x]) c z) ∧ Rel w' U (M ++ [x]) (.os O.length 0 (m0 + m)) v' ∧ BelowX (vBlk v) w w' := by
  obtain ⟨i, z, hi, hz, hk, hby, hzk⟩ := Z.ex
  subst hk; subst hby
  have hml : maxLen = 9223372036854775807 := rfl
  have hcells : ∀ (cur : Array Value) (o : Nat), o = 0 → (∀ j, j < (cs ++ ds).length → cur[j]? = (olds ++ news)[j]?) → ∀ (j : Nat) c, (Ob.cells ⟨.tr (cs ++ ds), e, i.size⟩)[j]? = some c → ∃ y, cur[o + j]? = some y ∧ y.oneCell' = true ∧ Rel w U M c y := by
    intro cur o ho hcur j c hc
    subst ho
    simp only [Ob.cells, Cs.list, List.getElem?_map] at hc
    cases hq : (cs ++ ds)[j]? with
    | none => rw [hq] at hc; cases hc
    | some q =>
      rw [hq] at hc; simp at hc; subst hc
      have hj := (List.getElem?_eq_some_iff.1 hq).1
      have hlen : (olds ++ news).length = (cs ++ ds).length := by simp [hcs, hds]
      have hy : (olds ++ news)[j]? = some ((olds ++ news)[j]'(by omega)) := List.getElem?_eq_getElem _
      refine ⟨_, by rw [Nat.zero_add, hcur j hj]; exact hy, ?_, .t _ _ ?_⟩
      · rcases List.mem_append.1 (get_mem hy) with h | h
        · exact h1o _ h
        · exact h1 _ h
      · rcases Nat.lt_or_ge j cs.length with h | h
        · rw [List.getElem?_append_left h] at hq
          rw [List.getElem?_append_left (by omega)] at hy
          exact hco j _ _ hq hy
        · rw [List.getElem?_append_right h] at hq
          rw [List.getElem?_append_right (by omega), ← hcs] at hy
          exact hcn _ _ _ hq hy
  have hob : (Ob.cells ⟨.tr (cs ++ ds), e, i.size⟩).length = (m0 + m) * i.size := by simp [Ob.cells, Cs.list, hcs, hds, hv.1, hl, Nat.add_mul]
  have hcslen : (cs ++ ds).length = (m0 + m) * i.size := by simp [hcs, hds, hv.1, hl, Nat.add_mul]
  have hsz0 : ∀ B, B < w.heap.size → B ≠ w.heap.size := fun B h e => by omega
  have hnoU : ¬ U w.heap.size := fun h => by have := (S.u _ h).1.1; omega
  have hnoM : ¬ InM M w.heap.size := fun h => by have := S.lt _ h; omega
  by_cases hm : m = 0
  · subst hm
    have hn : news = [] := List.eq_nil_of_length_eq_zero (by simpa using hl)
    subst hn
    have hd0 : ds = [] := List.eq_nil_of_length_eq_zero (by simpa using hds)
    subst hd0
    have hsrc : Src P i.size t (.slice ad 0 c) 0 [] w := by
      cases ad with
      | none => exact Src.ofNil w T.u c
      | some a => exact Src.ofSlice w T.u a 0 c [] (by simp) (by simp) (by simp)
    rcases hv.2 with ⟨rfl, rfl⟩ | ⟨B, o, cap, cur, rfl, hnc, hcm, hcur, h2, h3, h4, h5⟩
    · have hc0 : cs = [] := List.eq_nil_of_length_eq_zero (by rw [hcs, hv.1]; simp)
      subst hc0
      obtain ⟨S', hr⟩ := S.insN e i.size (Below.refl _ w)
      exact ⟨_, w, .nl, run_append_nothing w t t ty e i T.u hi none 0 0 (Nat.le_refl _) _ hsrc, S', hr, .osn _ (snoc_new S.len.symm), BelowX.refl _ _⟩
    · have hr0 := run_append_nothing w t t ty e i T.u hi (some ⟨B, o, none⟩) m0 cap hnc _ hsrc
      rcases h5 with ⟨h6, h7⟩ | ⟨h6, h7, h8⟩
      · have hc0 : cs = [] := List.eq_nil_of_length_eq_zero (by rw [hcs, hv.1, h6]; simp)
        subst hc0
        obtain ⟨S', hr⟩ := S.insX (L := ⟨B, cur.size, i.size⟩) (ob := ⟨.tr ([] ++ []), e, i.size⟩) (X := []) (BelowX.refl _ w) (fun B h => by simp at h) ⟨h2, h3, h4, (Array.getElem?_eq_some_iff.1 hcur).1⟩ ⟨cur, rfl, by simp [Ob.cells, Cs.list, Loc.off], hcur, rfl, fun j c h => by simp [Ob.cells, Cs.list] at h⟩
        subst h6; subst h7
        exact ⟨_, w, _, hr0, S', hr, by have := Rel.osz (w := w) (U := U) (M := M ++ [Pl.ad ⟨B, cur.size, i.size⟩]) O.length 0 o ⟨B, cur.size, i.size⟩ (snoc_new S.len.symm); simpa using this, BelowX.refl _ _⟩
      · subst h6
        have hle : m0 * i.size ≤ cap * i.size := Nat.mul_le_mul_right _ hnc
        obtain ⟨S', hr⟩ := S.insX (L := ⟨B, cur.size, i.size⟩) (ob := ⟨.tr (cs ++ []), e, i.size⟩) (X := []) (BelowX.refl _ w) (fun B h => by simp at h) ⟨h2, h3, h4, (Array.getElem?_eq_some_iff.1 hcur).1⟩
          ⟨cur, rfl, by rw [hob, h7]; simpa [Loc.off] using hle, hcur, rfl, hcells cur 0 rfl (fun j hj => by
            rw [hcslen] at hj
            rw [List.append_nil, ← h8, List.getElem?_take, if_pos (by simpa using hj)]; simp)⟩
        exact ⟨_, w, _, hr0, S', hr, by have := Rel.os (w := w) (U := U) (M := M ++ [Pl.ad ⟨B, cur.size, i.size⟩]) O.length 0 m0 cap ⟨B, cur.size, i.size⟩ (snoc_new S.len.symm) (by simp [h7, Loc.off]) hnc hcm; exact this, BelowX.refl _ _⟩
  · obtain ⟨a, rfl, hcell⟩ := hnews.resolve_left hm
    have fresh : ∀ (old : Nat), old < m0 + m →
        ∃ w' x, w' = w.drew.alloc (.cells (olds.toArray ++ news.toArray ++ Builtin.zeroCells z.cells (grownCap w (m0 + m) old e - (m0 + m))) e) ∧ Mem s (M ++ [x]) (O ++ [some ⟨.tr (cs ++ ds), e, i.size⟩]) U w' ∧ (∀ c z, Rel w U M c z → Rel w' U (M ++ [x]) c z) ∧ Rel w' U (M ++ [x]) (.os O.length 0 (m0 + m)) (.slice (some ⟨w.heap.size, 0, none⟩) (m0 + m) (grownCap w (m0 + m) old e)) ∧ ∀ X, BelowX X w w' := by
      intro old ho
      have hge := grownCap_ge w (m0 + m) old e
      have hcm : grownCap w (m0 + m) old e ≤ maxLen := grownCap_le_maxLen w (m0 + m) old e (by omega)
      have hsize : (olds.toArray ++ news.toArray ++ Builtin.zeroCells z.cells (grownCap w (m0 + m) old e - (m0 + m))).size = grownCap w (m0 + m) old e * i.size := by
        simp only [Array.size_append, List.size_toArray, size_zeroCells, hzk, hv.1, hl, ← Nat.add_mul]
        congr 1; omega
      obtain ⟨S', hr⟩ := S.insX (w' := w.drew.alloc (.cells (olds.toArray ++ news.toArray ++ Builtin.zeroCells z.cells (grownCap w (m0 + m) old e - (m0 + m))) e)) (L := ⟨w.heap.size, grownCap w (m0 + m) old e * i.size, i.size⟩) (ob := ⟨.tr (cs ++ ds), e, i.size⟩) (X := [])
        (BelowX.of _ (((Below.refl _ _).drew).alloc (Nat.le_refl _) _)) (fun B h => by simp at h) ⟨hnoM, hnoU, S.base.size, by simp⟩
        ⟨_, rfl, by rw [hob]; simpa [Loc.off] using Nat.mul_le_mul_right i.size hge, heap_alloc_new w.drew _, hsize, hcells _ 0 rfl (fun j hj => by
          have hj' : j < (olds ++ news).length := by simp [← hcs, ← hds]; simpa using hj
          rw [← Array.getElem?_toList]
          simp only [Array.toList_append]
          rw [List.getElem?_append_left (by simpa using hj')])⟩
      exact ⟨_, _, rfl, S', hr, .os _ _ _ _ ⟨w.heap.size, grownCap w (m0 + m) old e * i.size, i.size⟩ (snoc_new S.len.symm) (by simp [Loc.off]) hge hcm, fun X => BelowX.of _ (((Below.refl _ _).drew).alloc (Nat.le_refl _) _)⟩
    rcases hv.2 with ⟨rfl, rfl⟩ | ⟨B, o, cap, cur, rfl, hnc, hcm, hcur, h2, h3, h4, h5⟩
    · have hx : olds = [] := List.eq_nil_of_length_eq_zero (by simpa using hv.1)
      subst hx
      have hr := run_append_nil (P := P) w t ty e i z T.u hi hz a m c news hl hcell (by omega) (by omega) (by simp only [Nat.zero_add] at hbytes; omega)
      obtain ⟨w', x, rfl, S', hr', hR, hBX⟩ := fresh 0 (by omega)
      simp only [Nat.zero_add, Array.empty_append] at S' hr' hR hBX ⊢
      exact ⟨_, _, _, hr, S', hr', hR, hBX _⟩
    · rcases h5 with ⟨h6, h7⟩ | ⟨h6, h7, h8⟩
      · subst h6; subst h7
        have hx : olds = [] := List.eq_nil_of_length_eq_zero (by simpa using hv.1)
        subst hx
        have hr := run_append_grow (P := P) w t ty e i z T.u hi hz ⟨B, o, none⟩ 0 0 [] (by simp) (fun j v h => by simp at h) a m c news hl hcell (by omega) (by omega) (growslice_fits (by omega) hbytes)
        obtain ⟨w', x, rfl, S', hr', hR, hBX⟩ := fresh 0 (by omega)
        exact ⟨_, _, _, hr, S', hr', hR, hBX _⟩
      · subst h6
        by_cases hroom : m0 + m ≤ cap
        · have hfit : m0 * i.size + news.length ≤ cur.size := by rw [hl, h7, ← Nat.add_mul]; exact Nat.mul_le_mul_right _ hroom
          have hr := run_append_room (P := P) w t ty e i T.u hi B m0 cap cur hcur a m c news hl hcell h1 hroom hfit
          let new := (cur.toList.take (m0 * i.size) ++ news ++ cur.toList.drop (m0 * i.size + news.length)).toArray
          have hnsz : new.size = cap * i.size := by
            simp only [new, List.size_toArray, List.length_append, List.length_take, List.length_drop, Array.length_toList]
            omega
          obtain ⟨S', hr'⟩ := S.insX (w' := w.setRow B new) (L := ⟨B, cap * i.size, i.size⟩) (ob := ⟨.tr (cs ++ ds), e, i.size⟩) (X := [B]) ⟨rfl, rfl, rfl, by simp, fun k hk hx => setRow_other _ _ _ _ (by simpa using hx)⟩ (fun B' h => by simp at h; subst h; exact ⟨h2, h3, h4⟩) ⟨h2, h3, h4, by simpa using (Array.getElem?_eq_some_iff.1 hcur).1⟩
            ⟨new, rfl, by rw [hob]; simpa [Loc.off] using Nat.mul_le_mul_right i.size hroom, setRow_heap _ _ _ _ _ _ hcur, hnsz, hcells _ 0 rfl (fun j hj => by
              have hj' : j < (olds ++ news).length := by simp [← hcs, ← hds]; simpa using hj
              simp only [new, List.getElem?_toArray]
              rw [h8, List.getElem?_append_left hj'])⟩
          exact ⟨_, _, _, hr, S', hr', .os _ _ _ _ ⟨B, cap * i.size, i.size⟩ (snoc_new S.len.symm) (by simp [Loc.off]) hroom hcm, ⟨rfl, rfl, rfl, by simp, fun k hk hx => setRow_other _ _ _ _ (by simpa [vBlk] using hx)⟩⟩
        · have holds : ∀ j u, olds[j]? = some u → w.cell? ((⟨B, 0, none⟩ : Addr).add j) = some u := by
            intro j u hu
            rw [Rd.addr_add, Nat.zero_add, cell_of_row w _ _ cur _ _ hcur, ← Array.getElem?_toList, ← hu, ← h8, List.getElem?_take, if_pos]
            have := (List.getElem?_eq_some_iff.1 hu).1; rw [hv.1] at this; exact this
          have hr := run_append_grow (P := P) w t ty e i z T.u hi hz ⟨B, 0, none⟩ m0 cap olds hv.1 holds a m c news hl hcell (by omega) (by omega) (growslice_fits (by omega) hbytes)
          obtain ⟨w', x, rfl, S', hr', hR, hBX⟩ := fresh cap (by omega)
          exact ⟨_, _, _, hr, S', hr', hR, hBX _⟩
/-! ### append -/
def trsL : List AV → Option (List Tr)
  | [] => some []
  | .t c :: cs => (trsL cs).map (c :: ·)
  | _ :: _ => none
def Cs.trs : Cs → Option (List Tr)
  | .tr cs => some cs
  | .mx cs => trsL cs
theorem trsL_spec : ∀ {cs : List AV} {ds : List Tr}, trsL cs = some ds → cs = ds.map .t
  | [], ds, h => by simp [trsL] at h; subst h; rfl
  | .t c :: cs, ds, h => by
    simp only [trsL, Option.map_eq_some_iff] at h
    obtain ⟨es, h1, rfl⟩ := h
    rw [trsL_spec h1]; rfl
  | .any :: cs, ds, h => by simp [trsL] at h
  | .os _ _ _ :: cs, ds, h => by simp [trsL] at h
  | .op _ _ :: cs, ds, h => by simp [trsL] at h
  | .fn _ _ :: cs, ds, h => by simp [trsL] at h
  | .agg _ :: cs, ds, h => by simp [trsL] at h
  | .tup _ :: cs, ds, h => by simp [trsL] at h
theorem Cs.trs_spec {c : Cs} {ds : List Tr} (h : c.trs = some ds) : c.list = ds.map .t := by
  cases c with
  | tr cs => simp [Cs.trs] at h; subst h; rfl
  | mx cs => exact trsL_spec h
/-- A slice whose elements are appended. -/
def SrcA (s : Bs) (O : Obs) (a : AV) (k m : Nat) (ds : List Tr) : Prop :=
  ds.length = m * k ∧ ∀ M U w yv, Mem s M O U w → Rel w U M a yv → ∃ (ad : Option Addr) (c : Nat) (news : List Value), yv = .slice ad m c ∧ news.length = m * k ∧ (m = 0 ∨ ∃ a', ad = some a' ∧ ∀ (j : Nat) u, news[j]? = some u → w.cell? (a'.add j) = some u) ∧ (∀ u ∈ news, u.oneCell' = true) ∧ ∀ (j : Nat) c y, ds[j]? = some c → news[j]? = some y → TRel w U c y
theorem SrcA.t {k m : Nat} {ds : List Tr} (hl : ds.length = m * k) : SrcA s O (.t (.sl m ds)) k m ds := by
  refine ⟨hl, fun M U w yv S hr => ?_⟩
  cases hr with | t _ _ h =>
    cases h with
    | nil => exact ⟨none, 0, [], rfl, by simp, .inl rfl, fun u h => by simp at h, fun j c y h => by simp at h⟩
    | sl0 a cap => exact ⟨some a, cap, [], rfl, by simp, .inl rfl, fun u h => by simp at h, fun j c y h => by simp at h⟩
    | sl B off _ cap _ ys hU hl' h1 hc hr hn => exact ⟨_, cap, ys, rfl, by omega, .inr ⟨_, rfl, fun j u hu => by rw [Rd.addr_add]; exact hc j u hu⟩, h1, hr⟩
theorem SrcA.nil {k : Nat} : SrcA s O (.t (.v (.slice none 0 0))) k 0 [] := by
  refine ⟨by simp, fun M U w yv S hr => ?_⟩
  cases hr with | t _ _ h => cases h; exact ⟨none, 0, [], rfl, by simp, .inl rfl, fun u h => by simp at h, fun j c y h => by simp at h⟩
theorem SrcA.own {b j k m : Nat} {ob : Ob} {es ds : List Tr} (hO : O[b]? = some (some ob)) (hcs : ob.c.trs = some es) (hd : (es.drop j).take (m * k) = ds) (hl : ds.length = m * k) : SrcA s O (.os b j m) k m ds := by
  refine ⟨hl, fun M U w yv S hr => ?_⟩
  have hcl : ob.cells = es.map .t := Cs.trs_spec hcs
  cases hr with
  | osd _ _ _ _ _ hM => exact (S.own _ _ _ hO hM).elim
  | osn _ hM => exact ⟨none, 0, [], rfl, by simp, .inl rfl, fun u h => by simp at h, fun j c y h h' => by simp at h'⟩
  | osz _ _ o L hM => exact ⟨_, 0, [], rfl, by simp, .inl rfl, fun u h => by simp at h, fun j c y h h' => by simp at h'⟩
  | os _ _ _ cap L hM hcap hn hx =>
    obtain ⟨hk, hle, cur, hcur, hsz, hrr⟩ := S.own b ob _ hO hM
    have hel : es.length = ob.cells.length := by rw [hcl]; simp
    have hml : j + m * k ≤ es.length ∨ m * k = 0 := by
      have : ds.length ≤ es.length - j := by rw [← hd]; simp; omega
      omega
    have hle2 : L.off + j + m * k ≤ cur.size ∨ m * k = 0 := by omega
    have hyl : ((cur.toList.drop (L.off + j)).take (m * k)).length = m * k := by simp; omega
    have hget : ∀ i y, ((cur.toList.drop (L.off + j)).take (m * k))[i]? = some y → i < m * k ∧ cur[L.off + (j + i)]? = some y := by
      intro i y h
      rw [List.getElem?_take] at h
      split at h
      · rename_i hi; rw [List.getElem?_drop] at h; exact ⟨hi, by rw [← Nat.add_assoc]; simpa using h⟩
      · cases h
    refine ⟨_, cap, _, rfl, hyl, .inr ⟨_, rfl, fun i u hu => ?_⟩, fun u hu => ?_, fun i c y hc hy => ?_⟩
    · obtain ⟨h3, h4⟩ := hget i u hu
      rw [Rd.addr_add, cell_of_row w _ _ cur _ _ hcur, Nat.add_assoc]; exact h4
    · obtain ⟨i, hi⟩ := mem_get hu
      obtain ⟨h3, h4⟩ := hget i u hi
      obtain ⟨y', h5, h6, _⟩ := hrr (j + i) _ (List.getElem?_eq_getElem (by omega))
      rw [h4] at h5; cases h5; exact h6
    · obtain ⟨h3, h4⟩ := hget i y hy
      rw [← hd, List.getElem?_take, if_pos h3, List.getElem?_drop] at hc
      obtain ⟨y', h5, _, h6⟩ := hrr (j + i) (.t c) (by rw [hcl]; simp [hc])
      rw [h4] at h5; cases h5
      cases h6 with | t _ _ h => exact h
theorem Mem.grw {M : Mp} {U : Nat → Prop} {w : World} {b k n0 : Nat} {e : TypeId} {cs cs0 : List Tr} {v : Value} (S : Mem s M O U w) (hb : s.L.length ≤ b) (hO : O[b]? = some (some ⟨.tr cs, e, k⟩)) (hcs : cs.take (n0 * k) = cs0) (hl : cs0.length = n0 * k) (hr : Rel w U M (.os b 0 n0) v) :
    ∃ olds, Grw s (M.set b .dead) U w e k v n0 olds ∧ olds.length = cs0.length ∧ (∀ u ∈ olds, u.oneCell' = true) ∧ ∀ (j : Nat) c y, cs0[j]? = some c → olds[j]? = some y → TRel w U c y := by
  have hlive : ∀ (L : Loc), M[b]? = some (.ad L) → ¬ InM (M.set b .dead) L.blk ∧ ¬ U L.blk ∧ s.w.heap.size ≤ L.blk := by
    intro L hM
    refine ⟨?_, fun h => (S.u _ h).1.2 ⟨b, L, hM, rfl⟩, ?_⟩
    · rintro ⟨b', L', h1, h2⟩
      by_cases e : b' = b
      · subst e
        have hlt : b' < M.length := (List.getElem?_eq_some_iff.1 hM).1
        rw [List.getElem?_set_self hlt] at h1; cases h1
      · rw [List.getElem?_set_ne (Ne.symm e)] at h1
        exact e (S.one b' b L' L h1 hM h2)
    · rcases S.fresh _ ⟨b, L, hM, rfl⟩ with h | h
      · exact h
      · obtain ⟨b', L', h1, h2⟩ := Bs.exX h
        have := S.one b' b L' L (S.lent _ _ h1) hM h2
        have := (List.getElem?_eq_some_iff.1 h1).1
        omega
  cases hr with
  | osd _ _ _ _ _ hM => exact (S.own _ _ _ hO hM).elim
  | osn _ hM => exact ⟨[], ⟨by simp, .inl ⟨rfl, rfl⟩⟩, by rw [hl]; simp, fun u h => by simp at h, fun j c y _ h => by simp at h⟩
  | osz _ _ o L hM =>
    obtain ⟨hk, hle, cur, hcur, hsz, hrr⟩ := S.own b _ _ hO hM
    obtain ⟨h1, h2, h3⟩ := hlive L hM
    exact ⟨[], ⟨by simp, .inr ⟨_, o, 0, cur, rfl, Nat.le_refl _, Nat.zero_le _, hcur, h1, h2, h3, .inl ⟨rfl, rfl⟩⟩⟩, by rw [hl]; simp, fun u h => by simp at h, fun j c y _ h => by simp at h⟩
  | os _ _ _ cap L hM hcap hn hx =>
    obtain ⟨hk, hle, cur, hcur, hsz, hrr⟩ := S.own b _ _ hO hM
    obtain ⟨h1, h2, h3⟩ := hlive L hM
    simp only at hk hcur
    have hcslen : n0 * k ≤ cs.length := by
      have : cs0.length ≤ cs.length := by rw [← hcs]; simp; omega
      omega
    have hle' : L.off + cs.length ≤ L.size := by simpa [Ob.cells, Cs.list] using hle
    have hnc : n0 * k ≤ cap * k := Nat.mul_le_mul_right _ hn
    have hget : ∀ i y, ((cur.toList.drop L.off).take (n0 * k))[i]? = some y → i < n0 * k ∧ cur[L.off + i]? = some y := by
      intro i y h
      rw [List.getElem?_take] at h
      split at h
      · rename_i hi; rw [List.getElem?_drop] at h; exact ⟨hi, by simpa using h⟩
      · cases h
    have hyl : ((cur.toList.drop L.off).take (n0 * k)).length = n0 * k := by simp; omega
    have hpr : (∀ u ∈ (cur.toList.drop L.off).take (n0 * k), u.oneCell' = true) ∧ ∀ (j : Nat) c y, cs0[j]? = some c → ((cur.toList.drop L.off).take (n0 * k))[j]? = some y → TRel w U c y := by
      refine ⟨fun u hu => ?_, fun j c y hc hy => ?_⟩
      · obtain ⟨i, hi⟩ := mem_get hu
        obtain ⟨h4, h5⟩ := hget i u hi
        obtain ⟨y', h6, h7, _⟩ := hrr i (.t (cs[i]'(by omega))) (Rd.tr_get (List.getElem?_eq_getElem _))
        rw [h5] at h6; cases h6; exact h7
      · obtain ⟨h4, h5⟩ := hget j y hy
        rw [← hcs, List.getElem?_take, if_pos h4] at hc
        obtain ⟨y', h6, _, h7⟩ := hrr j (.t c) (Rd.tr_get hc)
        rw [h5] at h6; cases h6
        cases h7 with | t _ _ h => exact h
    refine ⟨(cur.toList.drop L.off).take (n0 * k), ⟨hyl, .inr ⟨L.blk, L.off + 0, cap, cur, rfl, hn, hx, hcur, h1, h2, h3, .inr ⟨rfl, by rw [hk] at hcap; simp only [Loc.off] at hcap; omega, rfl⟩⟩⟩, by rw [hyl, hl], hpr.1, hpr.2⟩
end
end V
end Go.Proofs.Ytoljdhdfijnjiaa
