/- Steps of walks: append, literals of slices and structs, make, slice expressions. No condition. -/
import Derived.Test.YtoljdhdfijnjiaaAbsF
namespace Go.Proofs.Ytoljdhdfijnjiaa
namespace V
set_option linter.unusedVariables false
set_option linter.unusedSimpArgs false
open Go.RowKit

section
variable {P : Program} {n : Nat} {s : Bs} {Q : APost} {σ : Fr} {O : Obs} {ops : Array Oper} {rest : List Oper} {d : Nat} {ty : TypeId} {pos : String} {after : Array Edge}
/-- append to a slice of the call's own; its old name dies. -/
theorem PL.app {m0 : Nat} (hm : s.L.length = m0) {t e : TypeId} {x y : Operand} {b n0 m k bytes : Nat} {ya : AV} {cs cs0 ds cs' : List Tr} [T : CSl P t e] [Z : CE P e k bytes] (hd : Nat.blt d n = true) (hx : evA σ x = .os b 0 n0) (hO : O[b]? = some (some ⟨.tr cs, e, k⟩)) (hy : evA σ y = ya)
    (hsrc : SrcA s (O.set b none) ya k m ds) (hb : Nat.ble m0 b = true) (hcs : cs.take (n0 * k) = cs0) (hl : cs0.length = n0 * k) (hbytes : (n0 + m) * bytes ≤ 140737488355328) (h63 : n0 + m ≤ 4611686018427387904) (hr : cs0 ++ ds = cs')
    (kk : PL P n s ops rest Q (updA σ d (.os O.length 0 (n0 + m))) (O.set b none ++ [some ⟨.tr cs', e, k⟩])) :
    PL P n s ops (⟨some d, .call { callee := .builtin .append, args := #[x, y], argTypes := #[t, t] }, ty, pos, after, none⟩ :: rest) Q σ O := by
  subst hr
  refine PL.eff hd (fun M U w σc S hσ => ?_) kk
  have hb' : s.L.length ≤ b := by rw [hm]; exact Nat.le_of_ble_eq_true hb
  have ex := evA_rel hσ x; rw [hx] at ex
  have ey := evA_rel hσ y; rw [hy] at ey
  obtain ⟨S1, hk⟩ := S.kill hb'
  obtain ⟨olds, hg, ho1, ho2, ho3⟩ := S.grw hb' hO hcs hl ex
  obtain ⟨ad, c, news, hyv, hnl, hnc, hn1, hn2⟩ := hsrc.2 _ _ _ _ S1 (hk _ _ ey)
  obtain ⟨v', w', p, hrun, S', hrel, hres, _⟩ := append_core (P := P) (t := t) (ty := ty) S1 hg hnl hnc hn1 ho2 ho1.symm (by rw [hsrc.1, hnl]) ho3 hn2 hbytes h63 (c := c)
  refine ⟨v', w', _, Yl.mk fun d pos after g => ?_, S', by simpa using hres, fun c z h => hrel _ _ (hk _ _ h)⟩
  simp [execOp, resolve, invoke, builtin, hyv, hrun]
/-- append to nil. -/
theorem PL.appN {t e : TypeId} {x y : Operand} {m k bytes : Nat} {ya : AV} {ds : List Tr} [T : CSl P t e] [Z : CE P e k bytes] (hd : Nat.blt d n = true) (hx : evA σ x = .t (.v (.slice none 0 0))) (hy : evA σ y = ya) (hsrc : SrcA s O ya k m ds)
    (hbytes : m * bytes ≤ 140737488355328) (h63 : m ≤ 4611686018427387904) 
    (kk : PL P n s ops rest Q (updA σ d (.os O.length 0 m)) (O ++ [some ⟨.tr ds, e, k⟩])) :
    PL P n s ops (⟨some d, .call { callee := .builtin .append, args := #[x, y], argTypes := #[t, t] }, ty, pos, after, none⟩ :: rest) Q σ O := by
  refine PL.eff hd (fun M U w σc S hσ => ?_) kk
  have ex := evA_rel hσ x; rw [hx] at ex
  have ey := evA_rel hσ y; rw [hy] at ey
  obtain ⟨ad, c, news, hyv, hnl, hnc, hn1, hn2⟩ := hsrc.2 _ _ _ _ S ey
  have hg : Grw s M U w e k (.slice none 0 0) 0 [] := ⟨by simp, .inl ⟨rfl, rfl⟩⟩
  obtain ⟨v', w', p, hrun, S', hrel, hres, _⟩ := append_core (P := P) (t := t) (ty := ty) (cs := []) S hg hnl hnc hn1 (fun u h => by simp at h) rfl (by rw [hsrc.1, hnl]) (fun j c y h => by simp at h) hn2 (by simpa using hbytes) (by simpa using h63) (c := c)
  refine ⟨v', w', _, Yl.mk fun d pos after g => ?_, S', by simpa using hres, hrel⟩
  simp [execOp, resolve, invoke, builtin, hyv, ex.int, hrun]
/-- The literal of a slice. -/
theorem cells_flat {w : World} {U : Nat → Prop} {M : Mp} : ∀ {avs : List AV} {vs : List Value}, vs.length = avs.length → (∀ (j : Nat) c y, avs[j]? = some c → vs[j]? = some y → Rel w U M c y) → (∀ c, c ∈ avs → wholeA c = true) →
    (vs.flatMap fun v => v.cells.toList).length = (avs.flatMap cellsA).length ∧ ∀ (j : Nat) d, (avs.flatMap cellsA)[j]? = some d → ∃ z, (vs.flatMap fun v => v.cells.toList)[j]? = some z ∧ z.oneCell' = true ∧ Rel w U M d z
  | [], [], _, _, _ => ⟨rfl, fun j d h => by simp at h⟩
  | [], v :: vs, h, _, _ => by cases h
  | a :: avs, [], h, _, _ => by cases h
  | a :: avs, v :: vs, h, hr, hw => by
    obtain ⟨h1, h2⟩ := cells_flat (avs := avs) (vs := vs) (by simpa using h) (fun j c y h3 h4 => hr (j + 1) c y (by simpa using h3) (by simpa using h4)) (fun c hc => hw c (.tail _ hc))
    obtain ⟨h3, h4⟩ := (hr 0 a v rfl rfl).cells (hw a (.head _))
    simp only [List.flatMap_cons, List.length_append, Array.length_toList]
    refine ⟨by omega, fun j d hd => ?_⟩
    rcases Nat.lt_or_ge j (cellsA a).length with hj | hj
    · rw [List.getElem?_append_left hj] at hd
      rw [List.getElem?_append_left (by simpa [h3] using hj)]
      simpa using h4 j d hd
    · rw [List.getElem?_append_right hj] at hd
      rw [List.getElem?_append_right (by simpa [h3] using hj)]
      simp only [Array.length_toList, h3]
      exact h2 _ d hd
theorem zip_swap {α : Type} : ∀ (vs : List α) (k : Nat), ((vs.zipIdx k).map fun x => (x.2, x.1)).map (·.2) = vs
  | [], _ => rfl
  | v :: vs, k => by
    simp only [List.zipIdx_cons, List.map_cons]
    rw [zip_swap vs (k + 1)]
theorem zip_idx {α : Type} : ∀ (vs : List α) (k : Nat), List.zip ((vs.zipIdx k).map (·.2)) vs = (vs.zipIdx k).map fun x => (x.2, x.1)
  | [], _ => rfl
  | v :: vs, k => by
    simp only [List.zipIdx_cons, List.map_cons, List.zip_cons_cons]
    rw [zip_idx vs (k + 1)]
theorem Ef.lit (avs : List AV) {t e : TypeId} {q len : Nat} {parts : Array (Nat × Operand)} {z : Value} {cs : List AV} [T : CSl P t e] [Z : CS P e q] [Y : CZ P e z] (hz : z.cells.size = q) (hlen : avs.length = len) (hle : 0 < len * q ∧ len * q ≤ 16777216)
    (hw : avs.all wholeA = true) (hq : avs.all (fun c => Nat.beq (cellsA c).length q) = true) (hp : parts.toList.map (fun x => (x.1, evA σ x.2)) = (avs.zipIdx 0).map fun x => (x.2, x.1)) (hcs : avs.flatMap cellsA = cs) : Ef P s O σ (.buildSlice t len parts) ty (.os O.length 0 len) (O ++ [some ⟨.mx cs, e, q⟩]) := by
  subst hcs
  intro M U w σc S hσ
  have hav : parts.toList.map (fun x => evA σ x.2) = avs := by
    have := congrArg (List.map Prod.snd) hp
    rw [List.map_map, zip_swap] at this
    exact this
  have hidx : parts.toList.map (·.1) = (avs.zipIdx 0).map (·.2) := by
    have := congrArg (List.map Prod.fst) hp
    simp only [List.map_map] at this
    exact this
  let vs : List Value := parts.toList.map fun x => ev σc x.2
  have hvl : vs.length = avs.length := by rw [← hav]; simp [vs]
  have hvr : ∀ (j : Nat) c y, avs[j]? = some c → vs[j]? = some y → Rel w U M c y := by
    intro j c y h1 h2
    rw [← hav] at h1
    simp only [vs, List.getElem?_map] at h1 h2
    cases hq : parts.toList[j]? with
    | none => rw [hq] at h1; cases h1
    | some p => rw [hq] at h1 h2; simp at h1 h2; subst h1; subst h2; exact evA_rel hσ p.2
  have hall : ∀ c, c ∈ avs → wholeA c = true := fun c hc => List.all_eq_true.1 hw c hc
  have hvsz : ∀ v ∈ vs, v.cells.size = q := by
    intro v hv
    obtain ⟨j, hj⟩ := mem_get hv
    have hj' : j < avs.length := by rw [← hvl]; exact (List.getElem?_eq_some_iff.1 hj).1
    have hc : avs[j]? = some avs[j] := List.getElem?_eq_getElem hj'
    have h1 := ((hvr j _ _ hc hj).cells (hall _ (get_mem hc))).1
    have h2 := List.all_eq_true.1 hq _ (get_mem hc)
    rw [h1]; exact Nat.eq_of_beq_eq_true h2
  have hparts : parts.toList.map (fun x => (x.fst, ev σc x.snd)) = (vs.zipIdx 0).map fun x => (x.2, x.1) := by
    have h1 : (parts.toList.map (fun x => (x.fst, ev σc x.snd))) = List.zip (parts.toList.map (·.1)) vs := by
      simp only [vs]
      rw [List.zip_map']
    have h2 : ((vs.zipIdx 0).map fun x => (x.2, x.1)) = List.zip ((avs.zipIdx 0).map (·.2)) vs := by
      have h3 : (avs.zipIdx 0).map (·.2) = (vs.zipIdx 0).map (·.2) := by
        rw [List.zipIdx_map_snd, List.zipIdx_map_snd, hvl]
      rw [h3, zip_idx]
    rw [h1, h2, hidx]
  obtain ⟨hc1, hc2⟩ := cells_flat hvl hvr hall
  have hqp : 0 < q := Nat.pos_of_ne_zero fun h => by rw [h] at hle; simp at hle
  have hvlen : vs.length = len := by rw [hvl, hlen]
  have hfl : (vs.flatMap fun v => v.cells.toList).length = len * q := by
    rw [← hvlen]
    clear hc2 hc1 hparts hvr hvl hvlen
    generalize vs = vs at hvsz
    induction vs with
    | nil => simp
    | cons v vs ih =>
      have := hvsz v (.head _)
      rw [List.flatMap_cons, List.length_append, ih (fun u hu => hvsz u (.tail _ hu))]
      simp [this, Nat.add_mul]; omega
  let cells := (vs.flatMap fun v => v.cells.toList).toArray
  obtain ⟨S', hall2⟩ := S.ins (w' := w.alloc (.cells cells e)) (L := ⟨w.heap.size, len * q, q⟩) (ob := ⟨.mx (avs.flatMap cellsA), e, q⟩) ((Below.refl _ _).alloc (Nat.le_refl _) _) (Nat.le_refl _) (by simp)
    ⟨cells, rfl, by simp [Ob.cells, Cs.list, Loc.off, ← hc1, hfl], heap_alloc_new _ _, by simp [cells, hfl], fun j c hj => by simpa [Loc.off, cells] using hc2 j c hj⟩
  refine ⟨.slice (some ⟨w.heap.size, 0, none⟩) len len, _, _, Yl.mk fun d pos after g => ?_, S', ?_, hall2, BelowX.of _ ((Below.refl _ _).alloc (Nat.le_refl _) _), fun L h => by cases h; exact Nat.le_refl _⟩
  · have h0 : ¬ len * q = 0 := by omega
    have h1 : ¬ (2 ^ 24 < len * q) := by omega
    simp only [execOp, Instr.buildSlice, Sem.run_bind, T.run, Z.run, Result.andThen_ok]
    simp [h0, h1, Y.run, newRow]
    have hf := Great.fill_whole hqp vs ((Array.range (len * q)).map (z.cells[· % z.cells.size]!)) hvsz (by simp [hvlen])
    rw [hparts, hf]
    simp [cells]
  · have hml : maxLen = 9223372036854775807 := rfl
    have hq1 : len * 1 ≤ len * q := Nat.mul_le_mul_left _ hqp
    exact .os (w := w.alloc (.cells cells e)) (U := U) (M := M ++ [.ad ⟨w.heap.size, len * q, q⟩]) O.length 0 len len ⟨w.heap.size, len * q, q⟩ (snoc_new S.len.symm) (by simp [Loc.off]) (Nat.le_refl _) (by omega)
theorem Ef.lit0 {t e : TypeId} {q : Nat} [T : CSl P t e] [Z : CS P e q] : Ef P s O σ (.buildSlice t 0 #[]) ty (.os O.length 0 0) (O ++ [some ⟨.tr [], e, q⟩]) := by
  intro M U w σc S hσ
  obtain ⟨S', hall2⟩ := S.ins (w' := w.alloc (.cells #[] e)) (L := ⟨w.heap.size, 0, q⟩) (ob := ⟨.tr [], e, q⟩) ((Below.refl _ _).alloc (Nat.le_refl _) _) (Nat.le_refl _) (by simp)
    ⟨#[], rfl, by simp [Ob.cells, Cs.list, Loc.off], heap_alloc_new _ _, rfl, fun j c hj => by simp [Ob.cells, Cs.list] at hj⟩
  refine ⟨.slice (some ⟨w.heap.size, 0, none⟩) 0 0, _, _, Yl.mk fun d pos after g => ?_, S', ?_, hall2, BelowX.of _ ((Below.refl _ _).alloc (Nat.le_refl _) _), fun L h => by cases h; exact Nat.le_refl _⟩
  · have hz : (Array.map (fun _ : Nat => (default : Value)) (Array.range 0)) = #[] := by simp
    simp [execOp, Instr.buildSlice, T.run, Z.run, Instr.fill, newRow, hz]
  · exact .os (w := w.alloc (.cells #[] e)) (U := U) (M := M ++ [.ad ⟨w.heap.size, 0, q⟩]) O.length 0 0 0 ⟨w.heap.size, 0, q⟩ (snoc_new S.len.symm) (by simp [Loc.off]) (Nat.le_refl _) (Nat.zero_le _)
end
end V
end Go.Proofs.Ytoljdhdfijnjiaa
