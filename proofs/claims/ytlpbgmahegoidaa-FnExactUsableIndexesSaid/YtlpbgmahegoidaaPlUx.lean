/- Catalogs: what the functions compute, in plain words. No condition. -/
import Derived.Test.YtlpbgmahegoidaaPlC
import Derived.Test.YtlpbgmahegoidaaUxa
namespace Go.Proofs.Ytlpbgmahegoidaa
namespace V
set_option linter.unusedVariables false
set_option linter.unusedSimpArgs false
set_option maxHeartbeats 1000000
theorem inRange_eq (N : Nat) (a l h : Int) : m_S_inRange N a l h = some (decide (l ≤ a ∧ a ≤ h)) := inRange_of a l h
/-- A name. -/
def vNm (u : ByteArray) : Prop := 1 ≤ u.size ∧ u.size ≤ 8 ∧ inR 97 122 u
noncomputable instance (u : ByteArray) : Decidable (vNm u) := Classical.propDecidable _
/-- Names and tables are not too long for a machine. -/
def EB (l : List I_Entry) : Prop := l.length ≤ 5000000 ∧ ∀ e ∈ l, e.name.size ≤ 5000000
/-- Where an entry stands. -/
def fo (l : List I_Entry) (x : ByteArray) : Unit ⊕ Int := ((List.range l.length).findSome? fun i => if h : i < l.length then (if l[i].name = x then some (Sum.inr (i : Int)) else none) else none).getD (.inl ())
def findP (l : List I_Entry) (x : ByteArray) : Int := match fo l x with | .inl _ => -1 | .inr v => v
theorem findP_range (l : List I_Entry) (x : ByteArray) : -1 ≤ findP l x ∧ findP l x < l.length ∧ (findP l x < 0 → findP l x = -1) := by
  unfold findP fo
  cases hq : (List.range l.length).findSome? fun i => if h : i < l.length then (if l[i].name = x then some (Sum.inr (i : Int) : Unit ⊕ Int) else none) else none with
  | none => simp; omega
  | some v =>
    obtain ⟨i, hi, h⟩ := List.exists_of_findSome?_eq_some hq
    rw [List.mem_range] at hi
    rw [dif_pos hi] at h
    split at h
    · cases h; simp; omega
    · cases h
/-- There is a table of a name. -/
def hasP (l : List I_Entry) (x : ByteArray) : Bool := match l[(findP l x).toNat]? with | some e => decide (0 ≤ findP l x) && decide (e.table = ByteArray.empty) | none => false
/-- What holds of an entry of a valid catalog. -/
def gC (l : List I_Entry) (i : Nat) : Prop := ∀ e, l[i]? = some e → vNm e.name ∧ findP l e.name = i ∧ 0 ≤ e.state ∧ e.state ≤ 2 ∧ (e.table = ByteArray.empty → e.state = 1) ∧ (e.table ≠ ByteArray.empty → hasP l e.table = true)
def vC (l : List I_Entry) : Prop := l.length ≤ 12 ∧ ∀ i, i < l.length → gC l i
noncomputable instance (l : List I_Entry) : Decidable (vC l) := Classical.propDecidable _
section
variable {N : Nat} (hN : 100000000 ≤ N)
include hN
theorem vNmI {u : ByteArray} (h : u.size ≤ 5000000) : m_I_validName N u = some (decide (vNm u)) := by
  refine bool_eq ?_
  unfold m_I_validName
  refine ok.ite (fun hc => ok.some ⟨fun e => (by cases e), fun e => (by have := e.1; omega)⟩) fun h1 => ok.ite (fun hc => ok.some ⟨fun e => (by cases e), fun e => (by have := e.2.1; omega)⟩) fun h2 => ?_
  refine ok.call (text_ok (u := u) 97 122 (by omega) (by omega) (fun i hi => ?_) ?_) ?_
  · show m_I_validName_b1 N u (i : Int) = _
    unfold m_I_validName_b1
    rw [decide_eq_true (by omega), cond_true, ixS_nat hi]
    simp only [Option.bind_some]
    have e1 : ((97 : UInt8).toNat : Int) = 97 := rfl
    have e2 : ((122 : UInt8).toNat : Int) = 122 := rfl
    rw [e1, e2]
    by_cases c1 : (u[i].toNat : Int) < 97
    · rw [decide_eq_true c1, cond_true, if_neg (by omega)]
    · rw [decide_eq_false c1, cond_false]
      by_cases c2 : (122 : Int) < (u[i].toNat : Int)
      · rw [decide_eq_true c2, cond_true, if_neg (by omega)]
      · rw [decide_eq_false c2, cond_false, if_pos (by omega), chk_eq (by omega)]; rfl
  · show m_I_validName_b1 N u _ = _
    unfold m_I_validName_b1
    rw [decide_eq_false (by omega)]; rfl
  · rintro _ (⟨rfl, h⟩ | ⟨rfl, h⟩)
    · exact ok.some ⟨fun _ => ⟨by omega, by omega, h⟩, fun _ => rfl⟩
    · exact ok.some ⟨fun e => (by cases e), fun e => (h e.2.2).elim⟩
theorem vNmS {u : ByteArray} (h : u.size ≤ 5000000) : m_S_validName N u = some (decide (vNm u)) := by
  refine bool_eq ?_
  unfold m_S_validName
  refine ok.call (text_ok (u := u) 97 122 (by omega) (by omega) (fun i hi => ?_) ?_) ?_
  · show m_S_validName_b1 N u (i : Int) = _
    unfold m_S_validName_b1
    rw [decide_eq_true (by omega), cond_true, ixS_nat hi]
    simp only [Option.bind_some]
    rw [inRange_eq]
    simp only [Option.bind_some]
    by_cases c1 : 97 ≤ (u[i].toNat : Int) ∧ (u[i].toNat : Int) ≤ 122
    · rw [decide_eq_true c1, cond_true, if_pos c1, chk_eq (by omega)]; rfl
    · rw [decide_eq_false c1, cond_false, if_neg c1]
  · show m_S_validName_b1 N u _ = _
    unfold m_S_validName_b1
    rw [decide_eq_false (by omega)]; rfl
  · rintro _ (⟨rfl, h⟩ | ⟨rfl, h⟩)
    · unfold m_S_validName_k1
      refine ok.eq (inRange_eq N _ _ _) (ok.some ?_)
      rw [decide_eq_true_eq]
      exact ⟨fun e => ⟨by omega, by omega, h⟩, fun e => by have := e.1; have := e.2.1; omega⟩
    · exact ok.some ⟨fun e => (by cases e), fun e => (h e.2.2).elim⟩
theorem findS {l : List I_Entry} (h : l.length ≤ 5000000) (x : ByteArray) : m_S_find N l x = some (findP l x) := by
  unfold m_S_find
  rw [loopM_up (β := Unit ⊕ Int) l.length (fun i => if h : i < l.length then (if l[i].name = x then some (Sum.inr (i : Int)) else none) else none) (.inl ()) (by omega)]
  · show (match fo l x with | .inl e => m_S_find_k1 N | .inr v => some v) = _
    unfold findP
    cases fo l x <;> rfl
  · intro i hi hg
    rw [dif_pos hi] at hg
    show m_S_find_b1 N l x i = _
    unfold m_S_find_b1
    rw [decide_eq_true (by omega), cond_true, ixI_nat hi]
    simp only [Option.bind_some]
    rw [textEq]
    by_cases c : l[i].name = x
    · rw [if_pos c] at hg; cases hg
    · rw [decide_eq_false c, cond_false, chk_eq (by omega)]; rfl
  · intro i b hi _ hg
    rw [dif_pos hi] at hg
    show m_S_find_b1 N l x i = _
    unfold m_S_find_b1
    rw [decide_eq_true (by omega), cond_true, ixI_nat hi]
    simp only [Option.bind_some]
    rw [textEq]
    by_cases c : l[i].name = x
    · rw [if_pos c] at hg; cases hg; rw [decide_eq_true c]; rfl
    · rw [if_neg c] at hg; cases hg
  · show m_S_find_b1 N l x _ = _
    unfold m_S_find_b1
    rw [decide_eq_false (by omega)]; rfl
theorem findI {l : List I_Entry} (h : l.length ≤ 5000000) (x : ByteArray) : m_I_findEntry N l x = some (findP l x) := by
  unfold m_I_findEntry m_slices_IndexFunc_I_Entry
  rw [loopM_up (β := Unit ⊕ Int) l.length (fun i => if h : i < l.length then (if l[i].name = x then some (Sum.inr (i : Int)) else none) else none) (.inl ()) (by omega)]
  · show ((match fo l x with | .inl e => m_slices_IndexFunc_I_Entry_k1 N _ | .inr v => some v) : Option Int).bind _ = _
    unfold findP
    cases fo l x <;> rfl
  · intro i hi hg
    rw [dif_pos hi] at hg
    show m_slices_IndexFunc_I_Entry_b1 N _ l i = _
    unfold m_slices_IndexFunc_I_Entry_b1 m_I_findEntry_1
    rw [decide_eq_true (by omega), cond_true, ixI_nat hi]
    simp only [Option.bind_some]
    rw [textEq]
    by_cases c : l[i].name = x
    · rw [if_pos c] at hg; cases hg
    · rw [decide_eq_false c, cond_false, chk_eq (by omega)]; rfl
  · intro i b hi _ hg
    rw [dif_pos hi] at hg
    show m_slices_IndexFunc_I_Entry_b1 N _ l i = _
    unfold m_slices_IndexFunc_I_Entry_b1 m_I_findEntry_1
    rw [decide_eq_true (by omega), cond_true, ixI_nat hi]
    simp only [Option.bind_some]
    rw [textEq]
    by_cases c : l[i].name = x
    · rw [if_pos c] at hg; cases hg; rw [decide_eq_true c]; rfl
    · rw [if_neg c] at hg; cases hg
  · show m_slices_IndexFunc_I_Entry_b1 N _ l _ = _
    unfold m_slices_IndexFunc_I_Entry_b1
    rw [decide_eq_false (by omega)]; rfl
theorem hasS {l : List I_Entry} (h : l.length ≤ 5000000) (x : ByteArray) : m_S_isTable N l x = some (hasP l x) := by
  refine ok.val ?_
  unfold m_S_isTable hasP
  have hr := findP_range l x
  refine ok.eq (findS hN h x) (ok.ite (fun hc => ok.ix hc (by omega) fun q hq he => ok.some ?_) fun hc => ok.some ?_)
  · rw [he, Int.toNat_natCast, List.getElem?_eq_getElem hq, textEq]
    simp
  · cases l[(findP l x).toNat]? with
    | none => rfl
    | some e => simp [decide_eq_false hc]
theorem hasI {l : List I_Entry} (h : l.length ≤ 5000000) (x : ByteArray) : m_I_hasTable N l x = some (hasP l x) := by
  refine ok.val ?_
  unfold m_I_hasTable hasP m_I_Entry_isTable
  have hr := findP_range l x
  refine ok.eq (findI hN h x) (ok.ite (fun hc => ok.ix hc (by omega) fun q hq he => ok.bs (ok.some ?_)) fun hc => ok.some ?_)
  · rw [he, Int.toNat_natCast, List.getElem?_eq_getElem hq, textEq]
    simp
  · cases l[(findP l x).toNat]? with
    | none => rfl
    | some e => simp [decide_eq_false hc]
theorem vCS {l : List I_Entry} (h : EB l) : m_S_validCatalog N l = some (decide (vC l)) := by
  refine bool_eq ?_
  unfold m_S_validCatalog
  have hl := h.1
  refine ok.call (all_ok (n := l.length) 0 (gC l) (by omega) ?_ ?_) ?_
  · intro i hi hg
    show ok (m_S_validCatalog_b1 N l ((i : Int) + 0)) _
    rw [Int.add_zero]
    have hx := List.getElem?_eq_getElem hi
    unfold m_S_validCatalog_b1
    have bad : ¬ gC l i → ok (some (.inr (.inr false)) : Option (Int ⊕ (Unit ⊕ Bool))) fun y => (y = .inl ((i : Int) + 1) ∧ gC l i) ∨ (y = .inr (.inr false) ∧ ¬ gC l i) := fun h => ok.some (.inr ⟨rfl, h⟩)
    have good : gC l i → ok ((chk ((i : Int) + 1)).bind fun n => some (.inl n) : Option (Int ⊕ (Unit ⊕ Bool))) fun y => (y = .inl ((i : Int) + 1) ∧ gC l i) ∨ (y = .inr (.inr false) ∧ ¬ gC l i) := fun h => ok.chk (by omega) (ok.some (.inl ⟨rfl, h⟩))
    refine ok.ift (by omega) (ok.eq (ixI_nat hi) (ok.eq (vNmS hN (h.2 _ (List.getElem_mem hi))) (ok.ite (fun h1 => ?_) fun h1 => bad fun e => h1 (e _ hx).1)))
    refine ok.eq (findS hN (by omega) _) (ok.ite (fun h2 => ?_) fun h2 => bad fun e => h2 (e _ hx).2.1)
    refine ok.eq (inRange_eq N _ _ _) (ok.ite (fun h3 => ?_) fun h3 => bad fun e => h3 ⟨(e _ hx).2.2.1, (e _ hx).2.2.2.1⟩)
    rw [textEq]
    refine ok.ite (fun h4 => ok.ite (fun h5 => good fun e he => ?_) fun h5 => bad fun e => h5 ((e _ hx).2.2.2.2.1 h4)) fun h4 => ok.eq (hasS hN (by omega) _) (ok.cond (fun h5 => good fun e he => ?_) fun h5 => bad fun e => (by rw [(e _ hx).2.2.2.2.2 h4] at h5; cases h5))
    · rw [hx] at he; cases he
      exact ⟨h1, h2, h3.1, h3.2, fun _ => h5, fun hh => (hh h4).elim⟩
    · rw [hx] at he; cases he
      exact ⟨h1, h2, h3.1, h3.2, fun hh => (h4 hh).elim, fun _ => h5⟩
  · show m_S_validCatalog_b1 N l _ = _
    unfold m_S_validCatalog_b1
    rw [decide_eq_false (by omega)]; rfl
  · rintro _ (⟨rfl, hh⟩ | ⟨rfl, hh⟩)
    · unfold m_S_validCatalog_k1
      refine ok.some ?_
      rw [decide_eq_true_eq]
      exact ⟨fun e => ⟨by omega, hh⟩, fun e => by have := e.1; omega⟩
    · exact ok.some ⟨fun e => (by cases e), fun e => (hh e.2).elim⟩
theorem vCI {l : List I_Entry} (h : EB l) : m_I_ValidCatalog N l = some (decide (vC l)) := by
  refine bool_eq ?_
  unfold m_I_ValidCatalog
  have hl := h.1
  refine ok.ite (fun hc => ok.some ⟨fun e => (by cases e), fun e => (by have := e.1; omega)⟩) fun h12 => ?_
  refine ok.call (all_ok (n := l.length) 0 (gC l) (by omega) ?_ ?_) ?_
  · intro i hi hg
    show ok (m_I_ValidCatalog_b1 N l ((i : Int) + 0)) _
    rw [Int.add_zero]
    have hx := List.getElem?_eq_getElem hi
    unfold m_I_ValidCatalog_b1 m_I_Entry_isTable
    have bad : ¬ gC l i → ok (some (.inr (.inr false)) : Option (Int ⊕ (Unit ⊕ Bool))) fun y => (y = .inl ((i : Int) + 1) ∧ gC l i) ∨ (y = .inr (.inr false) ∧ ¬ gC l i) := fun h => ok.some (.inr ⟨rfl, h⟩)
    have good : gC l i → ok ((chk ((i : Int) + 1)).bind fun n => some (.inl n) : Option (Int ⊕ (Unit ⊕ Bool))) fun y => (y = .inl ((i : Int) + 1) ∧ gC l i) ∨ (y = .inr (.inr false) ∧ ¬ gC l i) := fun h => ok.chk (by omega) (ok.some (.inl ⟨rfl, h⟩))
    refine ok.ift (by omega) (ok.eq (ixI_nat hi) (ok.eq (vNmI hN (h.2 _ (List.getElem_mem hi))) (ok.ite (fun h1 => ?_) fun h1 => bad fun e => h1 (e _ hx).1)))
    refine ok.eq (findI hN (by omega) _) (ok.ite (fun h2 => ?_) fun h2 => bad fun e => h2 (e _ hx).2.1)
    refine ok.bs ?_
    rw [textEq]
    refine ok.ite (fun h4 => ok.ite (fun h5 => good fun e he => ?_) fun h5 => bad fun e => h5 ((e _ hx).2.2.2.2.1 h4)) fun h4 => ok.eq (hasI hN (by omega) _) (ok.cond (fun h5 => ok.ite (fun h6 => bad fun e => (by have := (e _ hx).2.2.1; omega)) fun h6 => ok.ite (fun h7 => bad fun e => (by have := (e _ hx).2.2.2.1; omega)) fun h7 => good fun e he => ?_) fun h5 => bad fun e => (by rw [(e _ hx).2.2.2.2.2 h4] at h5; cases h5))
    · rw [hx] at he; cases he
      exact ⟨h1, h2, by omega, by omega, fun _ => h5, fun hh => (hh h4).elim⟩
    · rw [hx] at he; cases he
      exact ⟨h1, h2, by omega, by omega, fun hh => (h4 hh).elim, fun _ => h5⟩
  · show m_I_ValidCatalog_b1 N l _ = _
    unfold m_I_ValidCatalog_b1
    rw [decide_eq_false (by omega)]; rfl
  · rintro _ (⟨rfl, hh⟩ | ⟨rfl, hh⟩)
    · exact ok.some ⟨fun e => ⟨by omega, hh⟩, fun e => rfl⟩
    · exact ok.some ⟨fun e => (by cases e), fun e => (hh e.2).elim⟩
end
/-- The indexes that may be used. -/
def useB (t : ByteArray) (c : Bool) (e : I_Entry) : Bool := decide (e.table = t) && (decide (e.state = 1) || (c && decide (e.state = 0)))
noncomputable def useP (l : List I_Entry) (t : ByteArray) (c : Bool) : List ByteArray := if vC l then (if hasP l t = true then (l.filter (useB t c)).map I_Entry.name else []) else []
theorem useP_len (l : List I_Entry) (t : ByteArray) (c : Bool) : (useP l t c).length ≤ 12 := by
  unfold useP; split
  · rename_i h
    split
    · have := filt_len (useB t c) I_Entry.name l; have := h.1; omega
    · simp
  · simp
section
variable {N : Nat} (hN : 100000000 ≤ N)
include hN
theorem useI {l : List I_Entry} (h : EB l) (t : ByteArray) (c : Bool) : m_I_UsableIndexes N l t c = some (useP l t c) := by
  refine ok.val ?_
  unfold m_I_UsableIndexes
  have hl := h.1
  refine ok.eq (vCI hN h) (ok.ite (fun hv => ok.eq (hasI hN (by omega) _) (ok.cond (fun hh => ?_) fun hh => ok.some ?_)) fun hv => ok.some ?_)
  · have h12 := hv.1
    refine ok.call (ok.each l.length (fun i st => st = ((i : Int), ((l.take i).filter (useB t c)).map I_Entry.name)) (fun e => e = useP l t c) ?_ ?_ N 0 _ (Nat.zero_le _) rfl (by omega)) fun e he => ok.some he
    · rintro i _ hi rfl
      have hf := filt_len (useB t c) I_Entry.name (l.take i)
      have hfl : (l.take i).length ≤ 12 := by simp; omega
      have hstep := filt_take (useB t c) I_Entry.name hi
      unfold m_I_UsableIndexes_b1
      dsimp only
      have yes : useB t c l[i] = true → ok ((appM 16 (((l.take i).filter (useB t c)).map I_Entry.name) [l[i].name]).bind fun xs => (chk ((i : Int) + 1)).bind fun n => some (.inl (n, xs))) (fun y : (Int × List ByteArray) ⊕ List ByteArray => y = .inl (((i + 1 : Nat) : Int), ((l.take (i + 1)).filter (useB t c)).map I_Entry.name)) := fun hu => by
        rw [hu, if_pos rfl] at hstep
        refine ok.app ⟨by simp only [List.length_cons, List.length_nil]; omega, by simp only [List.length_cons, List.length_nil]; omega⟩ (ok.chk (by omega) (ok.some ?_))
        rw [hstep]; rfl
      have no : useB t c l[i] = false → ok ((chk ((i : Int) + 1)).bind fun n => some (.inl (n, ((l.take i).filter (useB t c)).map I_Entry.name))) (fun y : (Int × List ByteArray) ⊕ List ByteArray => y = .inl (((i + 1 : Nat) : Int), ((l.take (i + 1)).filter (useB t c)).map I_Entry.name)) := fun hu => by
        rw [hu, if_neg (by decide), List.append_nil] at hstep
        refine ok.chk (by omega) (ok.some ?_)
        rw [hstep]; rfl
      have hu : useB t c l[i] = (decide (l[i].table = t) && (decide (l[i].state = 1) || (c && decide (l[i].state = 0)))) := rfl
      refine ok.mono (P := fun y => y = .inl (((i + 1 : Nat) : Int), ((l.take (i + 1)).filter (useB t c)).map I_Entry.name)) ?_ (fun y hy => by subst hy; rfl)
      refine ok.ift (by omega) (ok.eq (ixI_nat hi) ?_)
      rw [textEq]
      refine ok.ite (fun c1 => ok.ite (fun c2 => yes (by rw [hu]; simp [c1, c2])) fun c2 => ok.cond (fun c3 => ok.ite (fun c4 => yes (by rw [hu]; simp [c1, c3, c4])) fun c4 => no (by rw [hu]; simp [c2, c4])) fun c3 => no (by rw [hu]; simp [c2, c3])) fun c1 => no (by rw [hu]; simp [c1])
    · rintro _ rfl
      unfold m_I_UsableIndexes_b1
      refine ok.iff (by dsimp only; omega) (ok.some ?_)
      show _ = _
      unfold useP; rw [if_pos hv, if_pos hh, List.take_length]
  · unfold useP; rw [if_pos hv, if_neg (by rw [hh]; decide)]
  · unfold useP; rw [if_neg hv]
theorem useS {l : List I_Entry} (h : EB l) (t : ByteArray) (c : Bool) : m_S_UsableIndexes N l t c = some (useP l t c) := by
  refine ok.val ?_
  unfold m_S_UsableIndexes
  have hl := h.1
  refine ok.eq (vCS hN h) (ok.ite (fun hv => ok.eq (hasS hN (by omega) _) (ok.cond (fun hh => ?_) fun hh => ok.some ?_)) fun hv => ok.some ?_)
  · have h12 := hv.1
    refine ok.call (ok.each l.length (fun i st => st = ((i : Int), ((l.take i).filter (useB t c)).map I_Entry.name)) (fun e => e = useP l t c) ?_ ?_ N 0 _ (Nat.zero_le _) rfl (by omega)) fun e he => ok.some he
    · rintro i _ hi rfl
      have hf := filt_len (useB t c) I_Entry.name (l.take i)
      have hfl : (l.take i).length ≤ 12 := by simp; omega
      have hstep := filt_take (useB t c) I_Entry.name hi
      unfold m_S_UsableIndexes_b1
      dsimp only
      have yes : useB t c l[i] = true → ok ((appM 16 (((l.take i).filter (useB t c)).map I_Entry.name) [l[i].name]).bind fun xs => (chk ((i : Int) + 1)).bind fun n => some (.inl (n, xs))) (fun y : (Int × List ByteArray) ⊕ List ByteArray => y = .inl (((i + 1 : Nat) : Int), ((l.take (i + 1)).filter (useB t c)).map I_Entry.name)) := fun hu => by
        rw [hu, if_pos rfl] at hstep
        refine ok.app ⟨by simp only [List.length_cons, List.length_nil]; omega, by simp only [List.length_cons, List.length_nil]; omega⟩ (ok.chk (by omega) (ok.some ?_))
        rw [hstep]; rfl
      have no : useB t c l[i] = false → ok ((chk ((i : Int) + 1)).bind fun n => some (.inl (n, ((l.take i).filter (useB t c)).map I_Entry.name))) (fun y : (Int × List ByteArray) ⊕ List ByteArray => y = .inl (((i + 1 : Nat) : Int), ((l.take (i + 1)).filter (useB t c)).map I_Entry.name)) := fun hu => by
        rw [hu, if_neg (by decide), List.append_nil] at hstep
        refine ok.chk (by omega) (ok.some ?_)
        rw [hstep]; rfl
      have hu : useB t c l[i] = (decide (l[i].table = t) && (decide (l[i].state = 1) || (c && decide (l[i].state = 0)))) := rfl
      refine ok.mono (P := fun y => y = .inl (((i + 1 : Nat) : Int), ((l.take (i + 1)).filter (useB t c)).map I_Entry.name)) ?_ (fun y hy => by subst hy; rfl)
      refine ok.ift (by omega) (ok.eq (ixI_nat hi) ?_)
      refine ok.ite (fun c2 => ok.eq (ixI_nat hi) ?_) fun c2 => ok.cond (fun c3 => ok.eq (ixI_nat hi) (ok.eq (ixI_nat hi) ?_)) fun c3 => ok.eq (ixI_nat hi) ?_
      · rw [textEq]
        exact ok.ite (fun c1 => ok.eq (ixI_nat hi) (yes (by rw [hu]; simp [c1, c2]))) fun c1 => no (by rw [hu]; simp [c1])
      · rw [textEq]
        exact ok.ite (fun c1 => ok.ite (fun c4 => ok.eq (ixI_nat hi) (yes (by rw [hu]; simp [c1, c3, c4]))) fun c4 => no (by rw [hu]; simp [c2, c4])) fun c1 => no (by rw [hu]; simp [c1])
      · rw [textEq]
        exact ok.ite (fun c1 => no (by rw [hu]; simp [c2, c3])) fun c1 => no (by rw [hu]; simp [c1])
    · rintro _ rfl
      unfold m_S_UsableIndexes_b1
      refine ok.iff (by dsimp only; omega) (ok.some ?_)
      show _ = _
      unfold useP; rw [if_pos hv, if_pos hh, List.take_length]
  · unfold useP; rw [if_pos hv, if_neg (by rw [hh]; decide)]
  · unfold useP; rw [if_neg hv]
end
end V
end Go.Proofs.Ytlpbgmahegoidaa
