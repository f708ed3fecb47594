/- Calls by their contracts. No condition. -/
import Derived.Test.YtoljdhdfijnjiaaAbsD
namespace Go.Proofs.Ytoljdhdfijnjiaa
namespace V
set_option linter.unusedVariables false
set_option linter.unusedSimpArgs false
open Go.RowKit

mutual
/-- No slice and no pointer that is only read. -/
def AV.flat : AV → Prop
  | .any => True
  | .t (.v _) => True
  | .t _ => False
  | .os _ _ _ => True
  | .op _ _ => True
  | .fn _ cs => AV.flatL cs
  | .agg cs => AV.flatL cs
  | .tup cs => AV.flatL cs
def AV.flatL : List AV → Prop
  | [] => True
  | c :: cs => AV.flat c ∧ AV.flatL cs
end
theorem AV.flatL_get : ∀ {cs : List AV} {j : Nat} {c : AV}, AV.flatL cs → cs[j]? = some c → c.flat
  | [], j, c, _, h => by simp at h
  | d :: cs, 0, c, h, h1 => by simp at h1; subst h1; exact h.1
  | d :: cs, j + 1, c, h, h1 => AV.flatL_get h.2 (by simpa using h1)
def Ob.flat (ob : Ob) : Prop := match ob.c with
  | .tr cs => ∀ c, c ∈ cs → ∃ x, c = .v x
  | .mx cs => AV.flatL cs
theorem Ob.flat_get {ob : Ob} (h : ob.flat) {j : Nat} {c : AV} (hc : ob.cells[j]? = some c) : c.flat := by
  obtain ⟨c0, t, k⟩ := ob
  cases c0 with
  | tr cs =>
    simp only [Ob.cells, Cs.list, List.getElem?_map] at hc
    cases hq : cs[j]? with
    | none => rw [hq] at hc; cases hc
    | some q =>
      rw [hq] at hc; simp at hc; subst hc
      obtain ⟨x, rfl⟩ := h q (get_mem hq)
      trivial
  | mx cs => exact AV.flatL_get h hc
theorem Rel.to {w : World} {U U' : Nat → Prop} {M M' : Mp} {θ : Nat → Nat} {z : Bool} (hU : z = false → ∀ B, U B → U' B) (hM : ∀ (i : Nat) x, M[i]? = some x → M'[θ i]? = some x) {c : AV} {y : Value} (h : Rel w U M c y) (hf : z = true → c.flat) : Rel w U' M' (c.ren θ) y := by
  have ht : ∀ (c : Tr) (y : Value), TRel w U c y → (z = true → (AV.t c).flat) → TRel w U' c y := by
    intro c y h hf
    cases z with
    | false => exact h.mono (fun _ _ => rfl) (hU rfl)
    | true =>
      have := hf rfl
      cases c with
      | v x => cases h with | v _ hp => exact .v _ hp
      | _ => exact this.elim
  induction h with
  | any y => exact .any y
  | t c y h => exact .t _ _ (ht c y h hf)
  | os b j n cap L h hc hn hx => exact .os _ _ _ _ L (hM _ _ h) hc hn hx
  | osn b h => exact .osn _ (hM _ _ h)
  | osz b j o L h => exact .osz _ _ _ L (hM _ _ h)
  | osd b j n y h1 h => exact .osd _ _ _ _ h1 (hM _ _ h)
  | opd b j y h1 h => exact .opd _ _ _ h1 (hM _ _ h)
  | op b j L h => exact .op _ _ L (hM _ _ h)
  | fn f cs ys hl _ ih => exact .fn f _ ys (by rw [AV.renL_len]; exact hl) (fun j c y h1 h2 => by
      rw [AV.renL_get] at h1
      cases hq : cs[j]? with
      | none => rw [hq] at h1; cases h1
      | some q => rw [hq] at h1; simp at h1; subst h1; exact ih j q y hq h2 (fun e => AV.flatL_get (hf e) hq))
  | agg cs ys hl h1 _ ih => exact .agg _ ys (by rw [AV.renL_len]; exact hl) h1 (fun j c y h1 h2 => by
      rw [AV.renL_get] at h1
      cases hq : cs[j]? with
      | none => rw [hq] at h1; cases h1
      | some q => rw [hq] at h1; simp at h1; subst h1; exact ih j q y hq h2 (fun e => AV.flatL_get (hf e) hq))
  | tup cs ys hl _ ih => exact .tup _ ys (by rw [AV.renL_len]; exact hl) (fun j c y h1 h2 => by
      rw [AV.renL_get] at h1
      cases hq : cs[j]? with
      | none => rw [hq] at h1; cases h1
      | some q => rw [hq] at h1; simp at h1; subst h1; exact ih j q y hq h2 (fun e => AV.flatL_get (hf e) hq))
def setK (O : Obs) : List Nat → List Ob → Obs
  | b :: κ, o :: bl => setK (O.set b (some o)) κ bl
  | _, _ => O
theorem setK_len : ∀ (κ : List Nat) (bl : List Ob) (O : Obs), (setK O κ bl).length = O.length
  | [], _, _ => by simp [setK]
  | b :: κ, [], O => by simp [setK]
  | b :: κ, o :: bl, O => by rw [setK, setK_len κ bl]; simp
theorem setK_other : ∀ (κ : List Nat) (bl : List Ob) (O : Obs) (b : Nat), b ∉ κ → (setK O κ bl)[b]? = O[b]?
  | [], _, _, _, _ => by simp [setK]
  | c :: κ, [], O, _, _ => by simp [setK]
  | c :: κ, o :: bl, O, b, h => by
    simp only [List.mem_cons, not_or] at h
    rw [setK, setK_other κ bl _ b h.2, List.getElem?_set_ne (Ne.symm h.1)]
theorem setK_at : ∀ (κ : List Nat) (bl : List Ob) (O : Obs) (i b : Nat) (o : Ob), nodupB (κ.map some) = true → κ[i]? = some b → bl[i]? = some o → b < O.length → (setK O κ bl)[b]? = some (some o)
  | [], _, _, i, _, _, _, h, _, _ => by simp at h
  | c :: κ, [], _, i, _, _, _, _, h, _ => by simp at h
  | c :: κ, o :: bl, O, 0, b, o', hn, h1, h2, h3 => by
    simp at h1 h2; subst h1; subst h2
    simp only [List.map_cons, nodupB, Bool.and_eq_true, Bool.not_eq_true', List.contains_eq_mem, decide_eq_false_iff_not] at hn
    rw [setK, setK_other κ bl _ _ (fun h => hn.1 (List.mem_map.2 ⟨_, h, rfl⟩)), List.getElem?_set_self h3]
  | c :: κ, o :: bl, O, i + 1, b, o', hn, h1, h2, h3 => by
    simp only [List.map_cons, nodupB, Bool.and_eq_true] at hn
    rw [setK]
    exact setK_at κ bl _ i b o' hn.2 (by simpa using h1) (by simpa using h2) (by simpa using h3)
/-- The callee's names in the caller's. -/
def thet (κ : List Nat) (m : Nat) : Nat → Nat := fun i => match κ[i]? with | some b => b | none => m + (i - κ.length)

section
variable {P : Program} {n : Nat} {s : Bs} {Q : APost} {σ : Fr} {O : Obs} {ops : Array Oper} {rest : List Oper} {d : Nat} {ty : TypeId} {pos : String} {after : Array Edge}
theorem SbL.rels {z : Bool} {M : Mp} {U : Nat → Prop} {w : World} {ρ : Rho} {args ds : List AV} {av : List Value} (S : Mem s M O U w) (h : SbL z O ρ args ds) (hl : av.length = ds.length) (hr : ∀ (j : Nat) c y, ds[j]? = some c → av[j]? = some y → Rel w U M c y) : ArgsRel w (frU z M ρ U) (mpR M ρ) args av := by
  obtain ⟨h1, h2⟩ := h.spec
  refine ⟨by omega, fun i a y h3 h4 => ?_⟩
  have hi : i < ds.length := by have := (List.getElem?_eq_some_iff.1 h3).1; omega
  exact (h2 i a _ h3 (List.getElem?_eq_getElem hi)).rel S (hr i _ y (List.getElem?_eq_getElem hi) h4)
/-- Memory behind a call. -/
theorem Mem.called {z : Bool} {M : Mp} {U : Nat → Prop} {w w' : World} {κ : List Nat} (S : Mem s M O U w) (hnd : nodupB (κ.map some) = true) (hκ : ∀ (i b : Nat), κ[i]? = some b → b < O.length) {M' : Mp} {U' : Nat → Prop} {bl : List Ob}
    (S' : Mem ⟨w, mpR M (κ.map some), frU z M (κ.map some) U⟩ M' (bl.map some) U' w') (hfl : z = true → ∀ ob, ob ∈ bl → ob.flat) :
    ∃ M2 U2, Mem s M2 (setK (O ++ (bl.drop κ.length).map (fun o => some (o.ren (thet κ O.length)))) κ (bl.map (·.ren (thet κ O.length)))) U2 w' ∧
      (∀ c y, Rel w U M c y → Rel w' U2 M2 c y) ∧ (∀ c y, Rel w' U' M' c y → (z = true → c.flat) → Rel w' U2 M2 (c.ren (thet κ O.length)) y) ∧ (∀ (b : Nat) x, M[b]? = some x → M2[b]? = some x) ∧
      ∀ B, B ∈ (Bs.mk w (mpR M (κ.map some)) (frU z M (κ.map some) U)).X → ∃ (i b : Nat) (L : Loc), κ[i]? = some b ∧ M[b]? = some (.ad L) ∧ L.blk = B := by
  let M2 : Mp := M ++ M'.drop κ.length
  let U2 : Nat → Prop := fun B => U B ∨ (U' B ∧ w.heap.size ≤ B)
  have hκM : ∀ (i b : Nat), κ[i]? = some b → ∃ x, M[b]? = some x ∧ M'[i]? = some x := by
    intro i b h
    have hb : b < M.length := by rw [S.len]; exact hκ i b h
    have hx : M[b]? = some M[b] := List.getElem?_eq_getElem hb
    exact ⟨_, hx, S'.lent i _ (mpR_some (by simp [h]) hx)⟩
  have hlen : κ.length ≤ M'.length := by
    rcases Nat.lt_or_ge M'.length κ.length with h | h
    · obtain ⟨x, _, hx⟩ := hκM M'.length _ (List.getElem?_eq_getElem h)
      rw [List.getElem?_eq_none (Nat.le_refl _)] at hx; cases hx
    · exact h
  have hbl : bl.length = M'.length := by have := S'.len; simp at this; omega
  have hX : ∀ B, B ∈ (Bs.mk w (mpR M (κ.map some)) (frU z M (κ.map some) U)).X → ∃ (i b : Nat) (L : Loc), κ[i]? = some b ∧ M[b]? = some (.ad L) ∧ M'[i]? = some (.ad L) ∧ L.blk = B := by
    intro B hB
    obtain ⟨i, L, h1, h2⟩ := Bs.exX hB
    obtain ⟨b, h3, h4⟩ := mpR_loc h1
    have h3' : κ[i]? = some b := by
      rw [List.getElem?_map] at h3
      cases hq : κ[i]? with
      | none => rw [hq] at h3; cases h3
      | some q => rw [hq] at h3; simp at h3; rw [h3]
    exact ⟨i, b, L, h3', h4, S'.lent i _ h1, h2⟩
  have hnew : ∀ (i : Nat) (L : Loc), κ.length ≤ i → M'[i]? = some (.ad L) → w.heap.size ≤ L.blk := by
    intro i L hi hM
    rcases S'.fresh _ ⟨i, L, hM, rfl⟩ with h | h
    · exact h
    · obtain ⟨j, b, L', h1, _, h3, h4⟩ := hX _ h
      have := S'.one j i L' L h3 hM h4
      have := (List.getElem?_eq_some_iff.1 h1).1
      omega
  have hM2 : ∀ (b : Nat) x, M[b]? = some x → M2[b]? = some x := fun b x h => by
    show (M ++ M'.drop κ.length)[b]? = some x
    rw [List.getElem?_append_left (List.getElem?_eq_some_iff.1 h).1]; exact h
  have hM2' : ∀ (i : Nat) x, κ.length ≤ i → M'[i]? = some x → M2[M.length + (i - κ.length)]? = some x := fun i x hi h => by
    show (M ++ M'.drop κ.length)[M.length + (i - κ.length)]? = some x
    rw [List.getElem?_append_right (by omega), show M.length + (i - κ.length) - M.length = i - κ.length by omega, List.getElem?_drop, show κ.length + (i - κ.length) = i by omega]; exact h
  have hθ : ∀ (i : Nat) x, M'[i]? = some x → M2[thet κ O.length i]? = some x := by
    intro i x h
    unfold thet
    cases hq : κ[i]? with
    | some b =>
      obtain ⟨x', h1, h2⟩ := hκM i b hq
      rw [h] at h2; cases h2
      exact hM2 b _ h1
    | none =>
      have hi : κ.length ≤ i := by
        rcases Nat.lt_or_ge i κ.length with h1 | h1
        · rw [List.getElem?_eq_getElem h1] at hq; cases hq
        · exact h1
      rw [← S.len]; exact hM2' i x hi h
  have hback : ∀ (b : Nat) x, M2[b]? = some x → (b < M.length ∧ M[b]? = some x) ∨ (M.length ≤ b ∧ M'[κ.length + (b - M.length)]? = some x) := by
    intro b x h
    rcases Nat.lt_or_ge b M.length with h1 | h1
    · left; refine ⟨h1, ?_⟩
      have : (M ++ M'.drop κ.length)[b]? = some x := h
      rwa [List.getElem?_append_left h1] at this
    · right; refine ⟨h1, ?_⟩
      have : (M ++ M'.drop κ.length)[b]? = some x := h
      rwa [List.getElem?_append_right h1, List.getElem?_drop] at this
  have hsame : ∀ B, U B → w'.heap[B]? = w.heap[B]? := fun B hB => S'.base.block B (S.u B hB).1.1 (fun h => by
    obtain ⟨i, b, L, _, h2, _, h4⟩ := hX B h
    exact (S.u B hB).1.2 ⟨b, L, h2, h4⟩)
  have hrel : ∀ c y, Rel w U M c y → Rel w' U2 M2 c y := fun c y h => h.mono hsame (fun B hB => .inl hB) hM2
  have hrel' : ∀ c y, Rel w' U' M' c y → (z = true → c.flat) → Rel w' U2 M2 (c.ren (thet κ O.length)) y := by
    intro c y h hf
    refine h.to (U' := U2) (z := z) (fun hz B hB => ?_) hθ hf
    subst hz
    rcases (S'.u B hB).2 with h1 | h1
    · rcases h1 with h1 | ⟨h1, _⟩
      · exact .inl h1
      · cases h1
    · exact .inr ⟨hB, h1⟩
  have hsz := S'.base.size
  refine ⟨M2, U2, ⟨?_, fun b x h => hM2 b x (S.lent b x h), ?_, ?_, ?_, ?_, ?_, ?_⟩, hrel, hrel', hM2, fun B hB => by obtain ⟨i, b, L, h1, h2, _, h4⟩ := hX B hB; exact ⟨i, b, L, h1, h2, h4⟩⟩
  · refine ⟨S'.base.os.trans S.base.os, S'.base.tape.trans S.base.tape, S'.base.output.trans S.base.output, Nat.le_trans S.base.size hsz, fun k hk hx => ?_⟩
    rw [S'.base.block k (Nat.lt_of_lt_of_le hk S.base.size) (fun h => by
      obtain ⟨i, b, L, _, h2, _, rfl⟩ := hX k h
      rcases S.fresh _ ⟨b, L, h2, rfl⟩ with h1 | h1
      · omega
      · exact hx h1)]
    exact S.base.block k hk hx
  · rw [setK_len]
    simp only [M2, List.length_append, List.length_drop, List.length_map, hbl, S.len]
  · rintro B ⟨b, L, h1, rfl⟩
    rcases hback b _ h1 with ⟨_, h2⟩ | ⟨_, h2⟩
    · exact Nat.lt_of_lt_of_le (S.lt _ ⟨b, L, h2, rfl⟩) hsz
    · exact S'.lt _ ⟨_, L, h2, rfl⟩
  · rintro B ⟨b, L, h1, rfl⟩
    rcases hback b _ h1 with ⟨_, h2⟩ | ⟨_, h2⟩
    · exact S.fresh _ ⟨b, L, h2, rfl⟩
    · exact .inl (Nat.le_trans S.base.size (hnew _ L (by omega) h2))
  · intro b b' L L' h1 h2 e
    rcases hback b _ h1 with ⟨g1, h3⟩ | ⟨g1, h3⟩ <;> rcases hback b' _ h2 with ⟨g2, h4⟩ | ⟨g2, h4⟩
    · exact S.one b b' L L' h3 h4 e
    · have := S.lt _ ⟨b, L, h3, rfl⟩; have := hnew _ L' (by omega) h4; omega
    · have := S.lt _ ⟨b', L', h4, rfl⟩; have := hnew _ L (by omega) h3; omega
    · have := S'.one _ _ L L' h3 h4 e; omega
  · intro b ob x hO hM
    have hblk : ∀ (i : Nat) (o : Ob) (x : Pl), bl[i]? = some o → M'[i]? = some x → Blk w' U2 M2 (o.ren (thet κ O.length)) x := by
      intro i o x h1 h2
      have := S'.own i o x (by simp [h1]) h2
      cases x with
      | dead => exact this
      | nl =>
        show (o.ren _).cells = []
        exact List.eq_nil_of_length_eq_zero (by rw [Ob.ren_len, show o.cells = [] from this]; rfl)
      | ad L =>
        obtain ⟨h3, h4, cur, h5, h6, h7⟩ := this
        refine ⟨h3, by rw [Ob.ren_len]; exact h4, cur, h5, h6, fun j c hc => ?_⟩
        rw [Ob.ren_get] at hc
        cases hq : o.cells[j]? with
        | none => rw [hq] at hc; cases hc
        | some q =>
          rw [hq] at hc; simp at hc; subst hc
          obtain ⟨y, g1, g2, g3⟩ := h7 j q hq
          exact ⟨y, g1, g2, hrel' _ _ g3 (fun e => Ob.flat_get (hfl e o (get_mem h1)) hq)⟩
    rcases hback b _ hM with ⟨g1, h3⟩ | ⟨g1, h3⟩
    · by_cases hm : b ∈ κ
      · obtain ⟨i, hi⟩ := mem_get hm
        have hib : i < bl.length := by have := (List.getElem?_eq_some_iff.1 hi).1; omega
        have hat := setK_at κ (bl.map (·.ren (thet κ O.length))) (O ++ (bl.drop κ.length).map (fun o => some (o.ren (thet κ O.length)))) i b (bl[i].ren (thet κ O.length)) hnd hi (by simp [hib]) (by have := hκ i b hi; simp; omega)
        rw [hat] at hO; cases hO
        obtain ⟨x', e1, e2⟩ := hκM i b hi
        rw [h3] at e1; cases e1
        exact hblk i _ _ (List.getElem?_eq_getElem hib) e2
      · rw [setK_other _ _ _ _ hm, List.getElem?_append_left (by rw [← S.len]; exact g1)] at hO
        have := S.own b ob x hO h3
        cases x with
        | nl => exact this
        | dead => exact this
        | ad L =>
          obtain ⟨e1, e2, cur, e3, e4, e5⟩ := this
          refine ⟨e1, e2, cur, ?_, e4, fun j c hc => ?_⟩
          · rw [S'.base.block _ (S.lt _ ⟨b, L, h3, rfl⟩) (fun h => by
              obtain ⟨i, b', L', g2, g3, _, g4⟩ := hX _ h
              have := S.one b' b L' L g3 h3 g4
              subst this; exact hm (get_mem g2))]
            exact e3
          · obtain ⟨y, g2, g3, g4⟩ := e5 j c hc
            exact ⟨y, g2, g3, hrel _ _ g4⟩
    · have hi : κ.length + (b - M.length) < bl.length := by rw [hbl]; exact (List.getElem?_eq_some_iff.1 h3).1
      have hnk : b ∉ κ := fun h => by
        obtain ⟨i, hi'⟩ := mem_get h
        have := hκ i b hi'; rw [← S.len] at this; omega
      rw [setK_other _ _ _ _ hnk, List.getElem?_append_right (by rw [← S.len]; exact g1), List.getElem?_map, List.getElem?_drop, ← S.len, List.getElem?_eq_getElem hi] at hO
      simp only [Option.map_some, Option.some.injEq] at hO
      subst hO
      have hq := hblk _ _ _ (List.getElem?_eq_getElem hi) h3
      rw [← S.len] at hq
      exact hq
  · intro B hB
    rcases hB with hB | ⟨hB, hge⟩
    · refine ⟨⟨Nat.lt_of_lt_of_le (S.u B hB).1.1 hsz, ?_⟩, (S.u B hB).2⟩
      rintro ⟨b, L, h1, h2⟩
      rcases hback b _ h1 with ⟨_, h3⟩ | ⟨_, h3⟩
      · exact (S.u B hB).1.2 ⟨b, L, h3, h2⟩
      · have := hnew _ L (by omega) h3; have := (S.u B hB).1.1; omega
    · refine ⟨⟨(S'.u B hB).1.1, ?_⟩, .inr (Nat.le_trans S.base.size hge)⟩
      rintro ⟨b, L, h1, h2⟩
      rcases hback b _ h1 with ⟨_, h3⟩ | ⟨_, h3⟩
      · have := S.lt _ ⟨b, L, h3, rfl⟩; omega
      · exact (S'.u B hB).1.2 ⟨_, L, h3, h2⟩
/-- A call by its contract. z: own blocks are handed over to be read, and what comes back is flat. -/
theorem call_core (z : Bool) (κ : List Nat) {f : FuncId} {O0 : List Ob} {args ds : List AV} {R : AV → List Ob → Prop} {xs : List Operand} (hc : FnX P f O0 args R)
    (ha : xs.map (evA σ) = ds) (hs : SbL z O (κ.map some) args ds) (hnd : nodupB (κ.map some) = true) (hb : BlkL z O (κ.map some) (κ.map some) O0)
    (hfl : z = true → ∀ r bl, R r bl → r.flat ∧ ∀ ob, ob ∈ bl → ob.flat) {M : Mp} {U : Nat → Prop} {σc : Nat → Value} {w : World} (S : Mem s M O U w) (hσ : Rels w U M σ σc) :
    Calls P f (xs.map (ev σc)).toArray w fun e w' => ∃ v r bl M2 U2 X, e = .returned v ∧ R r bl ∧ Mem s M2 (setK (O ++ (bl.drop κ.length).map (fun o => some (o.ren (thet κ O.length)))) κ (bl.map (·.ren (thet κ O.length)))) U2 w' ∧ (∀ c y, Rel w U M c y → Rel w' U2 M2 c y) ∧ Rel w' U2 M2 (r.ren (thet κ O.length)) v ∧
      (∀ (b : Nat) x, M[b]? = some x → M2[b]? = some x) ∧ BelowX X w w' ∧ ∀ B, B ∈ X → ∃ (i b : Nat) (L : Loc), κ[i]? = some b ∧ M[b]? = some (.ad L) ∧ L.blk = B := by
  have hsp := hb.spec
  have hκ : ∀ (i b : Nat), κ[i]? = some b → b < O.length := by
    intro i b h
    have hi : i < O0.length := by rw [hsp.1]; simp; exact (List.getElem?_eq_some_iff.1 h).1
    obtain ⟨ob0, h1, _⟩ := (hsp.2 i _ (some b) (List.getElem?_eq_getElem hi) (by simp [h])).2 b rfl
    exact (List.getElem?_eq_some_iff.1 h1).1
  have harg : ArgsRel w (frU z M (κ.map some) U) (mpR M (κ.map some)) args (xs.map (ev σc)) := by
    refine hs.rels S (by rw [← ha]; simp) fun j c y h1 h2 => ?_
    rw [← ha] at h1
    simp only [List.getElem?_map] at h1 h2
    cases hq : xs[j]? with
    | none => rw [hq] at h1; cases h1
    | some q => rw [hq] at h1 h2; simp at h1 h2; subst h1; subst h2; exact evA_rel hσ q
  have S0 : Mem ⟨w, mpR M (κ.map some), frU z M (κ.map some) U⟩ (mpR M (κ.map some)) (O0.map some) (frU z M (κ.map some) U) w :=
    ⟨BelowX.refl _ _, fun b x h => h, by simp [mpR, hsp.1], fun B hB => S.lt B (inM_R hB), fun B hB => .inr (by
      obtain ⟨b, L, h1, rfl⟩ := hB; exact Bs.inX (s := ⟨w, mpR M (κ.map some), frU z M (κ.map some) U⟩) h1), mpR_one S hnd, hb.own S, fun B hB => ⟨frU_fz S hB, .inl hB⟩⟩
  refine (hc ⟨w, mpR M (κ.map some), frU z M (κ.map some) U⟩ _ _ S0 (fun B hB => hB) harg).mono ?_
  rintro e w' ⟨v, r, bl, M', U', rfl, hR, hrel, S'⟩
  obtain ⟨M2, U2, S2, h1, h2, h3, h4⟩ := S.called hnd hκ S' (fun e => (hfl e r bl hR).2)
  exact ⟨v, r, bl, M2, U2, _, rfl, hR, S2, h1, h2 _ _ hrel (fun e => (hfl e r bl hR).1), h3, S'.base, h4⟩
theorem PL.call (z : Bool) (κ : List Nat) {f : FuncId} {O0 : List Ob} {args ds : List AV} {R : AV → List Ob → Prop} {xs : List Operand} {ats : Array TypeId} (hc : FnX P f O0 args R) (hd : Nat.blt d n = true)
    (hr : ∀ args w, (callFunc f args).run P w = .ok (.enter f args) w) (ha : xs.map (evA σ) = ds) (hs : SbL z O (κ.map some) args ds) (hnd : nodupB (κ.map some) = true) (hb : BlkL z O (κ.map some) (κ.map some) O0)
    (hfl : z = true → ∀ r bl, R r bl → r.flat ∧ ∀ ob, ob ∈ bl → ob.flat)
    (k : ∀ r bl, R r bl → PL P n s ops rest Q (updA σ d (r.ren (thet κ O.length))) (setK (O ++ (bl.drop κ.length).map (fun o => some (o.ren (thet κ O.length)))) κ (bl.map (·.ren (thet κ O.length))))) :
    PL P n s ops (⟨some d, .call { callee := .value (.func f), args := xs.toArray, argTypes := ats }, ty, pos, after, none⟩ :: rest) Q σ O := by
  refine ⟨fun M U σc w S hσ => LW.call hd (f := f) (run_fcall hr rfl) (call_core z κ hc ha hs hnd hb hfl S hσ) ?_⟩
  rintro e w' ⟨v, r, bl, M2, U2, X, rfl, hR, S2, h1, h2, _⟩
  exact ⟨v, rfl, (k r bl hR).h M2 U2 _ w' S2 (Rels.upd (fun t => h1 _ _ (hσ t)) d h2)⟩
end
end V
end Go.Proofs.Ytoljdhdfijnjiaa
