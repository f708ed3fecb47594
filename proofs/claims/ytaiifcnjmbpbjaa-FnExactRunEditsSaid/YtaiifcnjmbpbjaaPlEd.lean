/- Edits that run: what the functions compute, in plain words. No condition. -/
import Derived.Test.YtaiifcnjmbpbjaaPlC
import Derived.Test.YtaiifcnjmbpbjaaEda
namespace Go.Proofs.Ytaiifcnjmbpbjaa
namespace V
set_option linter.unusedVariables false
set_option linter.unusedSimpArgs false
set_option maxHeartbeats 1000000
theorem inRange_eq (N : Nat) (a l h : Int) : m_S_inRange N a l h = some (decide (l ≤ a ∧ a ≤ h)) := inRange_of a l h
/-- A store that is valid. -/
def vSt (s : List Int) : Prop := 1 ≤ s.length ∧ s.length ≤ 6 ∧ ∀ i, i < s.length → ∀ x, s[i]? = some x → 0 ≤ x ∧ x ≤ 999999
noncomputable instance (s : List Int) : Decidable (vSt s) := Classical.propDecidable _
/-- An edit that is possible. -/
def poss (e : I_Edit) (s : List Int) : Prop := 0 ≤ e.owner ∧ e.owner ≤ 7 ∧ 0 ≤ e.thing ∧ e.thing < s.length ∧ 0 ≤ e.new_ ∧ e.new_ ≤ 999999 ∧ s[e.thing.toNat]? = some e.old_
noncomputable instance (e : I_Edit) (s : List Int) : Decidable (poss e s) := Classical.propDecidable _
noncomputable def foE : List Int → List I_Edit → Option (List Int)
  | s, [] => some s
  | s, e :: l => if poss e s then foE (s.set e.thing.toNat e.new_) l else none
theorem foE_app : ∀ (a b : List I_Edit) (s : List Int), foE s (a ++ b) = (foE s a).bind fun s => foE s b
  | [], b, s => rfl
  | e :: a, b, s => by
    simp only [List.cons_append, foE]
    split
    · exact foE_app a b _
    · rfl
theorem foE_take {l : List I_Edit} {i : Nat} (h : i < l.length) {s t : List Int} (ht : foE s (l.take i) = some t) : foE s (l.take (i + 1)) = if poss l[i] t then some (t.set l[i].thing.toNat l[i].new_) else none := by
  rw [take_succ1 h, foE_app, ht]
  show foE t [l[i]] = _
  simp only [foE]
theorem foE_none {l : List I_Edit} {i : Nat} {s : List Int} (h : foE s (l.take i) = none) : foE s l = none := by
  have := foE_app (l.take i) (l.drop i) s
  rw [List.take_append_drop, h] at this
  exact this
theorem foE_len : ∀ (l : List I_Edit) (s t : List Int), foE s l = some t → t.length = s.length
  | [], s, t, h => by cases h; rfl
  | e :: l, s, t, h => by
    simp only [foE] at h
    split at h
    · have := foE_len l _ _ h; simpa using this
    · cases h
noncomputable def runP (s : List Int) (l : List I_Edit) : List Int × Bool := if vSt s ∧ l.length ≤ 20 then (match foE s l with | some t => (t, true) | none => ([], false)) else ([], false)
theorem runP_len (s : List Int) (l : List I_Edit) : (runP s l).1.length ≤ 6 := by
  unfold runP
  split
  · rename_i h
    cases hq : foE s l with
    | none => simp
    | some t => have := foE_len l s t hq; have := h.1.2.1; dsimp only; omega
  · simp
section
variable {N : Nat} (hN : 100000000 ≤ N)
include hN
theorem vStI {s : List Int} (h : s.length ≤ 5000000) : m_I_validStore N s = some (decide (vSt s)) := by
  refine bool_eq ?_
  unfold m_I_validStore
  refine ok.ite (fun hc => ok.some ⟨fun e => (by cases e), fun e => (by have := e.1; omega)⟩) fun h1 => ok.ite (fun hc => ok.some ⟨fun e => (by cases e), fun e => (by have := e.2.1; omega)⟩) fun h2 => ?_
  refine ok.call (all_ok (n := s.length) 0 (fun i => ∀ x, s[i]? = some x → 0 ≤ x ∧ x ≤ 999999) (by omega) ?_ ?_) ?_
  · intro i hi _
    show ok (m_I_validStore_b1 N s ((i : Int) + 0)) _
    rw [Int.add_zero]
    have hx := List.getElem?_eq_getElem hi
    unfold m_I_validStore_b1
    refine ok.ift (by omega) (ok.eq (ixI_nat hi) (ok.ite (fun c => ok.some (.inr ⟨rfl, fun e => (by have := e _ hx; omega)⟩)) fun c => ok.ite (fun c2 => ok.some (.inr ⟨rfl, fun e => (by have := e _ hx; omega)⟩)) fun c2 => ok.chk (by omega) (ok.some (.inl ⟨rfl, fun x hx' => ?_⟩))))
    rw [hx] at hx'; cases hx'; omega
  · show m_I_validStore_b1 N s _ = _
    unfold m_I_validStore_b1
    rw [decide_eq_false (by omega)]; rfl
  · rintro _ (⟨rfl, hh⟩ | ⟨rfl, hh⟩)
    · exact ok.some ⟨fun _ => ⟨by omega, by omega, hh⟩, fun _ => rfl⟩
    · exact ok.some ⟨fun e => (by cases e), fun e => (hh e.2.2).elim⟩
theorem vStS {s : List Int} (h : s.length ≤ 5000000) : m_S_validStore N s = some (decide (vSt s)) := by
  refine bool_eq ?_
  unfold m_S_validStore m_S_allIn
  refine ok.eq (inRange_eq N _ _ _) (ok.ite (fun h1 => ?_) fun h1 => ok.some ⟨fun e => (by cases e), fun e => (h1 ⟨by have := e.1; omega, by have := e.2.1; omega⟩).elim⟩)
  refine ok.call (P := fun r => r = true ↔ vSt s) ?_ fun r hr => ok.some hr
  refine ok.call (all_ok (n := s.length) 0 (fun i => ∀ x, s[i]? = some x → 0 ≤ x ∧ x ≤ 999999) (by omega) ?_ ?_) ?_
  · intro i hi _
    show ok (m_S_allIn_b1 N s 0 999999 ((i : Int) + 0)) _
    rw [Int.add_zero]
    have hx := List.getElem?_eq_getElem hi
    unfold m_S_allIn_b1
    refine ok.ift (by omega) (ok.eq (ixI_nat hi) (ok.eq (inRange_eq N _ _ _) (ok.ite (fun c => ok.chk (by omega) (ok.some (.inl ⟨rfl, fun x hx' => ?_⟩))) fun c => ok.some (.inr ⟨rfl, fun e => c (e _ hx)⟩))))
    rw [hx] at hx'; cases hx'; exact c
  · show m_S_allIn_b1 N s 0 999999 _ = _
    unfold m_S_allIn_b1
    rw [decide_eq_false (by omega)]; rfl
  · rintro _ (⟨rfl, hh⟩ | ⟨rfl, hh⟩)
    · exact ok.some ⟨fun _ => ⟨by omega, by omega, hh⟩, fun _ => rfl⟩
    · exact ok.some ⟨fun e => (by cases e), fun e => (hh e.2.2).elim⟩
omit hN in
theorem possI (e : I_Edit) (s : List Int) : m_I_Edit_possible N e s = some (decide (poss e s)) := by
  refine bool_eq ?_
  unfold m_I_Edit_possible poss
  have bad : ∀ {p : Prop}, ¬ p → ok (some false) fun r => r = true ↔ p := fun h => ok.some ⟨fun e => (by cases e), fun e => (h e).elim⟩
  refine ok.ite (fun c => bad (by omega)) fun c1 => ok.ite (fun c => bad (by omega)) fun c2 => ok.ite (fun c => bad (by omega)) fun c3 => ok.ite (fun c => bad (by omega)) fun c4 => ok.ite (fun c5 => ok.ite (fun c6 => ok.ix (by omega) (by omega) fun q hq he => ok.some ?_) fun c => bad (by omega)) fun c => bad (by omega)
  rw [decide_eq_true_eq, he, Int.toNat_natCast, List.getElem?_eq_getElem hq]
  exact ⟨fun e => ⟨by omega, by omega, by omega, by omega, by omega, by omega, by rw [e]⟩, fun e => Option.some.inj e.2.2.2.2.2.2⟩
omit hN in
theorem possS (e : I_Edit) {s : List Int} (h : s.length ≤ 5000000) : m_S_validEdit N s e = some (decide (poss e s)) := by
  refine bool_eq ?_
  unfold m_S_validEdit poss
  have bad : ∀ {p : Prop}, ¬ p → ok (some false) fun r => r = true ↔ p := fun h => ok.some ⟨fun e => (by cases e), fun e => (h e).elim⟩
  refine ok.eq (inRange_eq N _ _ _) (ok.ite (fun c1 => ok.chk (by omega) (ok.eq (inRange_eq N _ _ _) (ok.ite (fun c2 => ok.ix (by omega) (by omega) fun q hq he => ok.ite (fun c3 => ok.eq (inRange_eq N _ _ _) (ok.some ?_)) fun c => bad fun e => ?_) fun c => bad (by omega)))) fun c => bad (by omega))
  · rw [decide_eq_true_eq, he, Int.toNat_natCast, List.getElem?_eq_getElem hq]
    exact ⟨fun e => ⟨by omega, by omega, by omega, by omega, e.1, e.2, by rw [c3]⟩, fun e => ⟨e.2.2.2.2.1, e.2.2.2.2.2.1⟩⟩
  · have := e.2.2.2.2.2.2
    rw [he, Int.toNat_natCast, List.getElem?_eq_getElem hq] at this
    exact c (Option.some.inj this)
omit hN in
theorem copyInts_eq {l : List Int} (hf : l.length ≤ 5000000) : m_S_copyInts N l = some l := by
  unfold m_S_copyInts
  rw [appM_eq ⟨by simp; omega, by simp; omega⟩]; rfl
theorem runI {s : List Int} {l : List I_Edit} (h : s.length ≤ 5000000) : m_I_RunEdits N s l = some (runP s l) := by
  refine ok.val ?_
  unfold m_I_RunEdits
  refine ok.eq (vStI hN h) (ok.ite (fun hv => ok.ite (fun hc => ok.some ?_) fun hl => ?_) fun hv => ok.some ?_)
  · unfold runP; rw [if_neg fun e => by have := e.2; omega]
  · have hcl : m_slices_Clone_int N s = some s := by
      unfold m_slices_Clone_int
      rw [appM_eq ⟨by simp; omega, by simp; omega⟩]; rfl
    refine ok.eq hcl ?_
    refine ok.call (P := fun o => (∃ t, o = .inl t ∧ foE s l = some t) ∨ (o = .inr ([], false) ∧ foE s l = none)) (ok.each l.length (fun i st => st.1 = (i : Int) ∧ foE s (l.take i) = some st.2) _ ?_ ?_ N 0 _ (Nat.zero_le _) ⟨rfl, rfl⟩ (by omega)) ?_
    · rintro i ⟨_, t⟩ hi ⟨rfl, ht⟩
      dsimp only at ht ⊢
      have hstep := foE_take hi ht
      unfold m_I_RunEdits_b1
      refine ok.ift (by omega) (ok.eq (ixI_nat hi) (ok.eq (possI _ _) (ok.ite (fun c => ok.ix c.2.2.1 c.2.2.2.1 fun q hq he => ok.chk (by omega) (ok.some ⟨by simp, ?_⟩)) fun c => ok.some (.inr ⟨rfl, ?_⟩))))
      · rw [hstep, if_pos c]
      · rw [if_neg c] at hstep
        exact foE_none hstep
    · rintro ⟨_, t⟩ ⟨rfl, ht⟩
      dsimp only at ht ⊢
      unfold m_I_RunEdits_b1
      refine ok.iff (by omega) (ok.some (.inl ⟨t, rfl, ?_⟩))
      rw [List.take_length] at ht; exact ht
    · rintro _ (⟨t, rfl, ht⟩ | ⟨rfl, ht⟩)
      · refine ok.some ?_
        unfold runP; rw [if_pos ⟨hv, by omega⟩, ht]
      · refine ok.some ?_
        unfold runP; rw [if_pos ⟨hv, by omega⟩, ht]
  · unfold runP; rw [if_neg fun e => hv e.1]
theorem runS {s : List Int} {l : List I_Edit} (h : s.length ≤ 5000000) : m_S_RunEdits N s l = some (runP s l) := by
  refine ok.val ?_
  unfold m_S_RunEdits m_S_validEdits
  have key : vSt s → l.length ≤ 20 → ok (loopM (β := Unit ⊕ Bool) (fun s : (List Int) × Int => m_S_validEdits_b1 N l s.1 s.2) N (s, (0 : Int))) fun o => (o = .inl () ∧ ∃ t, foE s l = some t) ∨ (o = .inr false ∧ foE s l = none) := fun hv hl => by
    have h6 := hv.2.1
    refine ok.each l.length (fun i st => st.2 = (i : Int) ∧ foE s (l.take i) = some st.1) _ ?_ ?_ N 0 _ (Nat.zero_le _) ⟨rfl, rfl⟩ (by omega)
    · rintro i ⟨t, _⟩ hi ⟨rfl, ht⟩
      dsimp only at ht ⊢
      have hstep := foE_take hi ht
      have htl := foE_len _ _ _ ht
      unfold m_S_validEdits_b1 m_S_redo
      refine ok.ift (by omega) (ok.eq (ixI_nat hi) (ok.eq (possS _ (by omega)) (ok.ite (fun c => ok.eq (ixI_nat hi) ?_) fun c => ok.some (.inr ⟨rfl, ?_⟩))))
      · refine ok.call (P := fun r => r = t.set l[i].thing.toNat l[i].new_) (ok.eq (copyInts_eq (by omega)) (ok.ix c.2.2.1 c.2.2.2.1 fun q hq he => ok.some rfl)) fun r hr => ok.chk (by omega) (ok.some ⟨by simp, ?_⟩)
        rw [hstep, if_pos c, hr]
      · rw [if_neg c] at hstep
        exact foE_none hstep
    · rintro ⟨t, _⟩ ⟨rfl, ht⟩
      dsimp only at ht ⊢
      unfold m_S_validEdits_b1
      rw [List.take_length] at ht
      exact ok.iff (by omega) (ok.some (.inl ⟨rfl, t, ht⟩))
  refine ok.call (P := fun r => r = true ↔ vSt s ∧ l.length ≤ 20 ∧ ∃ t, foE s l = some t) (ok.eq (vStS hN h) (ok.ite (fun hv => ok.ite (fun hc => ok.some ⟨fun e => (by cases e), fun e => (by have := e.2.1; omega)⟩) fun hl => ok.call (key hv (by omega)) ?_) fun hv => ok.some ⟨fun e => (by cases e), fun e => (hv e.1).elim⟩)) fun r hr => ok.cond (fun c => ?_) fun c => ok.some ?_
  · rintro _ (⟨rfl, ht⟩ | ⟨rfl, ht⟩)
    · exact ok.some ⟨fun _ => ⟨hv, by omega, ht⟩, fun _ => rfl⟩
    · exact ok.some ⟨fun e => (by cases e), fun e => (by rw [ht] at e; obtain ⟨_, _, _, e⟩ := e; cases e)⟩
  · obtain ⟨hv, hl, t, ht⟩ := hr.1 c
    have h6 := hv.2.1
    unfold m_S_run
    refine ok.call (P := fun r => r = t) (ok.eq (copyInts_eq h) ?_) fun r hr => ok.some ?_
    · refine ok.call (ok.each l.length (fun i st => st.1 = (i : Int) ∧ foE s (l.take i) = some st.2) (fun e => e = t) ?_ ?_ N 0 _ (Nat.zero_le _) ⟨rfl, rfl⟩ (by omega)) fun e he => ok.some he
      · rintro i ⟨_, v⟩ hi ⟨rfl, hw⟩
        dsimp only at hw ⊢
        have hstep := foE_take hi hw
        have hp : poss l[i] v := by
          by_cases hp : poss l[i] v
          · exact hp
          · rw [if_neg hp] at hstep
            rw [foE_none hstep] at ht; cases ht
        unfold m_S_run_b1
        refine ok.ift (by omega) (ok.eq (ixI_nat hi) (ok.eq (ixI_nat hi) (ok.ix hp.2.2.1 hp.2.2.2.1 fun q hq he => ok.chk (by omega) (ok.some ⟨by simp, ?_⟩))))
        rw [hstep, if_pos hp]
      · rintro ⟨_, v⟩ ⟨rfl, hw⟩
        dsimp only at hw ⊢
        unfold m_S_run_b1
        rw [List.take_length, ht] at hw
        exact ok.iff (by omega) (ok.some (Option.some.inj hw).symm)
    · unfold runP; rw [if_pos ⟨hv, hl⟩, ht, hr]
  · unfold runP
    split
    · rename_i hh
      cases hq : foE s l with
      | none => rfl
      | some t => rw [hr.2 ⟨hh.1, hh.2, t, hq⟩] at c; cases c
    · rfl
end
end V
end Go.Proofs.Ytaiifcnjmbpbjaa
