/- What the rows need, part 8. No condition. -/
import Derived.Test.YthhlkedkeefgnaaDoorQInG
namespace Go.Proofs.YthhlkedkeefgnaaDoor
namespace V
set_option linter.unusedVariables false
set_option linter.unusedSimpArgs false
set_option maxHeartbeats 1000000
theorem cut_ix {α : Type} {A xs : List α} {i : Nat} (hA : A.length = i) (h : i < xs.length) : ixI (A ++ xs.drop i) (i : Int) = some xs[i] := by
  rw [ixI_nat (by simp; omega), List.getElem_append_right (by omega)]
  congr 1
  rw [List.getElem_drop]; congr 1; omega
theorem cut_set {α : Type} {A xs : List α} {i : Nat} (hA : A.length = i) (h : i < xs.length) (y : α) : (A ++ xs.drop i).set i y = (A ++ [y]) ++ xs.drop (i + 1) := by
  rw [List.drop_eq_getElem_cons h, List.set_append_right _ _ (by omega), hA, Nat.sub_self, List.set_cons_zero, List.append_assoc, List.singleton_append]
theorem cut_same {α : Type} {A xs : List α} {i : Nat} (h : i < xs.length) : A ++ xs.drop i = (A ++ [xs[i]]) ++ xs.drop (i + 1) := by
  rw [List.drop_eq_getElem_cons h, List.append_assoc, List.singleton_append]
/-- A loop that finds nothing to stop at. -/
theorem loop_self {body : Int → Option (Int ⊕ (Unit ⊕ Bool))} {N n : Nat} (hN : n < N) (h : ∀ i, i < n → body (i : Int) = some (.inl ((i : Int) + 1))) (he : body (n : Int) = some (.inr (.inl ()))) : loopM body N (0 : Int) = some (.inl ()) := by
  have : ok (loopM body N (0 : Int)) fun o => o = .inl () := by
    refine ok.each n (fun i s => s = (i : Int)) _ ?_ ?_ N 0 _ (Nat.zero_le _) rfl (by omega)
    · rintro i s hi rfl
      rw [h i hi]; exact ok.some (by simp)
    · rintro s rfl
      rw [he]; exact ok.some rfl
  exact ok.val this
section
variable {N : Nat} (hN : 100000000 ≤ N)
include hN
theorem cloneI {t : I_Table} (hb : bT t) : m_I_Table_clone N t = some t := by
  have hfl := hb.f.1
  have hcl := hb.c.1
  have hrl := hb.rl
  refine ok.val ?_
  unfold m_I_Table_clone
  refine ok.eq (show m_slices_Clone_I_Column N t.first = some t.first from appM0 (by omega)) (ok.eq (show m_slices_Clone_I_Change N t.changes = some t.changes from appM0 (by omega)) ?_)
  refine ok.call (P := fun o => o = t.rows) (ok.each t.rows.length (fun i s => s = ((i : Int), t.rows.take i)) _ ?_ ?_ N 0 _ (Nat.zero_le _) rfl (by omega)) ?_
  · rintro i s hi rfl
    show ok (m_I_Table_clone_b1 N t (i : Int) _) _
    unfold m_I_Table_clone_b1
    have hr := (hb.r i hi).1
    refine ok.ift (by omega) (ok.eq (ixI_nat hi) (ok.eq (show m_slices_Clone_I_Value N t.rows[i].row = some t.rows[i].row from appM0 (by omega)) (ok.app (by simp; omega) (ok.chk (by omega) (ok.some ?_)))))
    refine Prod.ext (by simp) ?_
    show _ = t.rows.take (i + 1)
    rw [take_succ1 hi]
  · rintro s rfl
    show ok (m_I_Table_clone_b1 N t _ _) _
    unfold m_I_Table_clone_b1
    refine ok.iff (by omega) (ok.some ?_)
    rw [List.take_length]
  · rintro o rfl
    exact ok.some rfl
theorem copyTS {t : I_Table} (hb : bT t) : m_S_copyTable N t = some t := by
  have hfl := hb.f.1
  have hcl := hb.c.1
  have hrl := hb.rl
  refine ok.val ?_
  unfold m_S_copyTable
  refine ok.call (P := fun o => o = t.rows) (ok.each t.rows.length (fun i s => s = ((i : Int), t.rows.take i)) _ ?_ ?_ N 0 _ (Nat.zero_le _) rfl (by omega)) ?_
  · rintro i s hi rfl
    show ok (m_S_copyTable_b1 N t (i : Int) _) _
    unfold m_S_copyTable_b1
    have hr := (hb.r i hi).1
    refine ok.ift (by omega) (ok.eq (ixI_nat hi) (ok.eq (ixI_nat hi) (ok.eq (appM0 (by omega)) (ok.app (by simp; omega) (ok.chk (by omega) (ok.some ?_))))))
    refine Prod.ext (by simp) ?_
    show _ = t.rows.take (i + 1)
    rw [take_succ1 hi]
  · rintro s rfl
    show ok (m_S_copyTable_b1 N t _ _) _
    unfold m_S_copyTable_b1
    refine ok.iff (by omega) (ok.some ?_)
    rw [List.take_length]
  · rintro o rfl
    show ok (m_S_copyTable_k1 N t _) _
    unfold m_S_copyTable_k1
    refine ok.eq (copyS hfl) (ok.eq (appM0 (by omega)) (ok.some rfl))
omit hN in
theorem rwL_take (t : I_Table) (n : Nat) {i : Nat} (h : i < t.rows.length) : rwL (oldB t) (toL t) n (t.rows.take (i + 1)) = rwL (oldB t) (toL t) n (t.rows.take i) ++ [if oldB t t.rows[i] = true ∧ 0 < n - (t.rows.take i).countP (oldB t) then toL t t.rows[i] else t.rows[i]] := by
  rw [take_succ1 h, rwL_app, rwL_one]
theorem rewI {t : I_Table} {k : Int} (hb : bT t) (hk : k ≤ 9223372036854775807) : m_I_RewriteRows N t k = some (if tV t ∧ 0 ≤ k then rwT t k.toNat else noT) := by
  have hrl := hb.rl
  refine ok.val ?_
  unfold m_I_RewriteRows
  refine ok.eq (validTI hN hb) (ok.ite (fun hv => ok.ite (fun h0 => ok.some ?_) fun h0 => ?_) fun hv => ok.some ?_)
  · rw [if_neg (by omega)]; rfl
  · rw [if_pos ⟨hv, by omega⟩]
    obtain ⟨n, rfl⟩ : ∃ n : Nat, k = n := ⟨k.toNat, by omega⟩
    rw [Int.toNat_natCast]
    refine ok.eq (cloneI hN hb) ?_
    refine ok.call (P := fun o => o = rwL (oldB t) (toL t) n t.rows) (ok.each t.rows.length (fun i s => s = ((i : Int), ((n - (t.rows.take i).countP (oldB t) : Nat) : Int), rwL (oldB t) (toL t) n (t.rows.take i) ++ t.rows.drop i)) _ ?_ ?_ N 0 _ (Nat.zero_le _) (by simp [rwL]) (by omega)) ?_
    · rintro i s hi rfl
      show ok (m_I_RewriteRows_b1 N t _ (i : Int) _ _) _
      unfold m_I_RewriteRows_b1
      dsimp only
      have hA : (rwL (oldB t) (toL t) n (t.rows.take i)).length = i := by rw [rwL_len, List.length_take]; omega
      refine ok.ift (by omega) (ok.eq (cut_ix hA hi) (ok.ite (fun hm => ok.eq (show m_I_Table_last N t = some (t.changes.length : Int) from rfl) (ok.ite (fun c => ok.chk (by omega) (ok.some ?_)) fun c => ok.eq (show m_I_Table_last N t = some (t.changes.length : Int) from rfl) (ok.eq (read1I hN hv hb.c (hv.2.2 i hi)) (ok.chk (by omega) (ok.chk (by omega) (ok.some ?_)))))) fun hm => ok.chk (by omega) (ok.some ?_)))
      · have ho : ¬ oldB t t.rows[i] = true := by unfold oldB; simp [c]
        rw [rwL_take t n hi, if_neg (fun e => ho e.1), count_take _ hi, if_neg ho, cut_same hi]; simp
      · have ho : oldB t t.rows[i] = true := by unfold oldB; simp [c]
        rw [rwL_take t n hi, if_pos ⟨ho, by omega⟩, count_take _ hi, if_pos ho, Int.toNat_natCast, cut_set hA hi]
        refine Prod.ext (by simp) (Prod.ext ?_ rfl)
        show ((n - (t.rows.take i).countP (oldB t) : Nat) : Int) - 1 = ((n - ((t.rows.take i).countP (oldB t) + 1) : Nat) : Int)
        omega
      · rw [rwL_take t n hi, if_neg (fun e => by have := e.2; omega), cut_same hi]
        refine Prod.ext (by simp) (Prod.ext ?_ rfl)
        show ((n - (t.rows.take i).countP (oldB t) : Nat) : Int) = ((n - (t.rows.take (i + 1)).countP (oldB t) : Nat) : Int)
        rw [count_take _ hi]; omega
    · rintro s rfl
      show ok (m_I_RewriteRows_b1 N t _ _ _ _) _
      unfold m_I_RewriteRows_b1
      dsimp only
      refine ok.iff (by omega) (ok.some ?_)
      rw [List.take_length, List.drop_length, List.append_nil]
    · rintro o rfl
      exact ok.some rfl
  · rw [if_neg fun e => hv e.1]; rfl
theorem insI {t : I_Table} {r : List I_Value} (hb : bT t) (hr : bR r) : m_I_InsertRow N t r = some (if canI t r then (insT t r, true) else (noT, false)) := by
  have hrl := hb.rl
  have hr0 := hr.1
  refine ok.val ?_
  unfold m_I_InsertRow
  refine ok.eq (lastI hN hb) ?_
  by_cases hv : tV t
  · rw [if_pos hv]
    refine ok.bt rfl (ok.ite (fun h10 => ok.some ?_) fun h10 => ok.eq (fitI hN (vF_bS (fL_v hv)) hr) (ok.ite (fun hf => ?_) fun hf => ok.some ?_))
    · rw [if_neg fun e : canI t r => by have := e.2.1; omega]; rfl
    · rw [if_pos (show canI t r from ⟨hv, by omega, hf.2⟩)]
      refine ok.eq (cloneI hN hb) (ok.eq (show m_I_Table_last N t = some (t.changes.length : Int) from rfl) (ok.eq (show m_slices_Clone_I_Value N r = some r from appM0 (by omega)) (ok.app (by simp; omega) (ok.some rfl))))
    · rw [if_neg fun e : canI t r => hf ⟨fL_v hv, e.2.2⟩]; rfl
  · rw [if_neg hv, if_neg fun e : canI t r => hv e.1]
    exact ok.bf rfl (ok.some rfl)
theorem insS {t : I_Table} {r : List I_Value} (hb : bT t) (hr : bR r) : m_S_InsertRow N t r = some (if canI t r then (insT t r, true) else (noT, false)) := by
  have hrl := hb.rl
  have hr0 := hr.1
  refine ok.val ?_
  unfold m_S_InsertRow
  refine ok.eq (validTS hN hb) (ok.ite (fun hv => ok.ite (fun h10 => ok.some ?_) fun h10 => ok.eq (formatsS hN hb.f.1 (vF_bN hv.1.1) hb.c) ?_) fun hv => ok.some ?_)
  · rw [if_neg fun e : canI t r => by have := e.2.1; omega]; rfl
  · rw [if_pos hv.1.2.2]
    refine ok.eq (chs_ix rfl (Nat.le_refl _)) (ok.eq (fitS hN hr (fL_v hv).1.2) (ok.ite (fun hf => ?_) fun hf => ok.some ?_))
    · rw [if_pos (show canI t r from ⟨hv, by omega, hf⟩)]
      refine ok.eq (copyTS hN hb) (ok.eq (appM0 (by omega)) (ok.app (by simp; omega) (ok.some rfl)))
    · rw [if_neg fun e : canI t r => hf e.2.2]; rfl
  · rw [if_neg fun e : canI t r => hv e.1]; rfl
theorem altI {t : I_Table} {c : I_Change} (hb : bT t) (hc : c.column.default.text.size ≤ 5000000) : m_I_AlterTable N t c = some (if canA t c then (altT t c, true) else (noT, false)) := by
  have hcl := hb.c.1
  refine ok.val ?_
  unfold m_I_AlterTable
  refine ok.eq (lastI hN hb) ?_
  by_cases hv : tV t
  · rw [if_pos hv]
    refine ok.bt rfl (ok.ite (fun h10 => ok.some ?_) fun h10 => ok.eq (possI hN hc) (ok.ite (fun hf => ?_) fun hf => ok.some ?_))
    · rw [if_neg fun e : canA t c => by have := e.2.1; omega]; rfl
    · rw [if_pos (show canA t c from ⟨hv, by omega, hf⟩)]
      refine ok.eq (cloneI hN hb) (ok.app (by simp; omega) (ok.some rfl))
    · rw [if_neg fun e : canA t c => hf e.2.2]; rfl
  · rw [if_neg hv, if_neg fun e : canA t c => hv e.1]
    exact ok.bf rfl (ok.some rfl)
theorem altS {t : I_Table} {c : I_Change} (hb : bT t) (hc : c.column.default.text.size ≤ 5000000) : m_S_AlterTable N t c = some (if canA t c then (altT t c, true) else (noT, false)) := by
  have hcl := hb.c.1
  refine ok.val ?_
  unfold m_S_AlterTable
  refine ok.eq (validTS hN hb) (ok.ite (fun hv => ok.eq (copyTS hN hb) (ok.app (by simp; omega) ?_)) fun hv => ok.some ?_)
  · have h8 := hv.1.2.1
    have hbc : bCs (t.changes ++ [c]) := ⟨by simp; omega, fun x hx => by
      rcases List.mem_append.1 hx with h | h
      · exact hb.c.2 x h
      · rw [List.mem_singleton.1 h]; exact hc⟩
    refine ok.eq (vchainS hN hb.f hbc) (ok.ite (fun hf => ok.some ?_) fun hf => ok.some ?_)
    · rw [if_pos (show canA t c from ⟨hv, by have := hf.2.1; simp at this; omega, (gC_app.1 hf.2.2).2⟩)]; rfl
    · rw [if_neg fun e : canA t c => hf ⟨hv.1.1, by have := e.2.1; simp; omega, gC_app.2 ⟨hv.1.2.2, e.2.2⟩⟩]; rfl
  · rw [if_neg fun e : canA t c => hv e.1]; rfl
theorem eqRow {r : List I_Value} (hl : r.length ≤ 5000000) : m_L_equalRow N r r = some true := by
  refine ok.val ?_
  unfold m_L_equalRow
  refine ok.ift rfl (ok.eq (loop_self (n := r.length) (by omega) (fun i hi => ?_) ?_) (ok.some rfl))
  · show m_L_equalRow_b1 N r r (i : Int) = _
    unfold m_L_equalRow_b1
    exact ok.val (ok.ift (by omega) (ok.eq (ixI_nat hi) (ok.eq (ixI_nat hi) (ok.ift rfl (ok.chk (by omega) (ok.some rfl))))))
  · show m_L_equalRow_b1 N r r _ = _
    unfold m_L_equalRow_b1
    rw [decide_eq_false (by omega)]; rfl
theorem eqRows {r : List (List I_Value)} (hl : r.length ≤ 5000000) (h : ∀ i (h : i < r.length), r[i].length ≤ 5000000) : m_L_equalRows N r r = some true := by
  refine ok.val ?_
  unfold m_L_equalRows
  refine ok.ift rfl (ok.eq (loop_self (n := r.length) (by omega) (fun i hi => ?_) ?_) (ok.some rfl))
  · show m_L_equalRows_b1 N r r (i : Int) = _
    unfold m_L_equalRows_b1
    exact ok.val (ok.ift (by omega) (ok.eq (ixI_nat hi) (ok.eq (ixI_nat hi) (ok.eq (eqRow hN (h i hi)) (ok.bt rfl (ok.chk (by omega) (ok.some rfl)))))))
  · show m_L_equalRows_b1 N r r _ = _
    unfold m_L_equalRows_b1
    rw [decide_eq_false (by omega)]; rfl
theorem eqFmt {r : List I_Column} (hl : r.length ≤ 5000000) : m_L_equalFormat N r r = some true := by
  refine ok.val ?_
  unfold m_L_equalFormat
  refine ok.ift rfl (ok.eq (loop_self (n := r.length) (by omega) (fun i hi => ?_) ?_) (ok.some rfl))
  · show m_L_equalFormat_b1 N r r (i : Int) = _
    unfold m_L_equalFormat_b1
    exact ok.val (ok.ift (by omega) (ok.eq (ixI_nat hi) (ok.eq (ixI_nat hi) (ok.ift rfl (ok.chk (by omega) (ok.some rfl))))))
  · show m_L_equalFormat_b1 N r r _ = _
    unfold m_L_equalFormat_b1
    rw [decide_eq_false (by omega)]; rfl
theorem eqChgs {r : List I_Change} (hl : r.length ≤ 5000000) : m_L_equalChanges N r r = some true := by
  refine ok.val ?_
  unfold m_L_equalChanges
  refine ok.ift rfl (ok.eq (loop_self (n := r.length) (by omega) (fun i hi => ?_) ?_) (ok.some rfl))
  · show m_L_equalChanges_b1 N r r (i : Int) = _
    unfold m_L_equalChanges_b1
    exact ok.val (ok.ift (by omega) (ok.eq (ixI_nat hi) (ok.eq (ixI_nat hi) (ok.ift rfl (ok.chk (by omega) (ok.some rfl))))))
  · show m_L_equalChanges_b1 N r r _ = _
    unfold m_L_equalChanges_b1
    rw [decide_eq_false (by omega)]; rfl
theorem eqTag {r : List I_Tagged} (hl : r.length ≤ 5000000) (h : ∀ i (h : i < r.length), bR r[i].row) : m_L_equalTagged N r r = some true := by
  refine ok.val ?_
  unfold m_L_equalTagged
  refine ok.ift rfl (ok.eq (loop_self (n := r.length) (by omega) (fun i hi => ?_) ?_) (ok.some rfl))
  · show m_L_equalTagged_b1 N r r (i : Int) = _
    unfold m_L_equalTagged_b1
    exact ok.val (ok.ift (by omega) (ok.eq (ixI_nat hi) (ok.eq (ixI_nat hi) (ok.ift rfl (ok.eq (ixI_nat hi) (ok.eq (ixI_nat hi) (ok.eq (eqRow hN (h i hi).1) (ok.bt rfl (ok.chk (by omega) (ok.some rfl))))))))))
  · show m_L_equalTagged_b1 N r r _ = _
    unfold m_L_equalTagged_b1
    rw [decide_eq_false (by omega)]; rfl
theorem eqTab {t : I_Table} (hb : bT t) : m_L_equalTable N t t = some true := by
  refine ok.val ?_
  unfold m_L_equalTable
  exact ok.eq (eqFmt hN hb.f.1) (ok.bt rfl (ok.eq (eqChgs hN hb.c.1) (ok.bt rfl (ok.eq (eqTag hN hb.rl hb.r) (ok.some rfl)))))
end
theorem noT_b : bT noT := ⟨⟨Nat.zero_le _, fun c h => by cases h⟩, ⟨Nat.zero_le _, fun c h => by cases h⟩, Nat.zero_le _, fun i h => absurd h (Nat.not_lt_zero _)⟩
end V
end Go.Proofs.YthhlkedkeefgnaaDoor
namespace Go.Proofs.YthhlkedkeefgnaaDoor
namespace V
set_option linter.unusedVariables false
set_option linter.unusedSimpArgs false
set_option maxHeartbeats 1000000
/-- A reader that has not gone beyond c. -/
def RdB (r : S_reader) (c : Int) : Prop := r.b.length ≤ 2000 ∧ 0 ≤ r.p ∧ r.p ≤ c
theorem RdB.mono {r : S_reader} {c d : Int} (h : RdB r c) (hd : c ≤ d) : RdB r d := ⟨h.1, h.2.1, by have := h.2.2; omega⟩
/-- A value that is not too large. -/
def bV (v : I_Value) : Prop := (-1000000000 ≤ v.num ∧ v.num ≤ 1000000000) ∧ v.text.size ≤ 5000000
def bFm (f : List I_Column) (n : Nat) : Prop := f.length ≤ n ∧ ∀ c ∈ f, bV c.default
theorem bFm.bN {f : List I_Column} {n : Nat} (h : bFm f n) : bN f := fun c hc => (h.2 c hc).1
theorem bFm.bS {f : List I_Column} {n : Nat} (h : bFm f n) (hn : n ≤ 100) : bS f := ⟨by have := h.1; omega, fun c hc => (h.2 c hc).2⟩
theorem bFm.mono {f : List I_Column} {n m : Nat} (h : bFm f n) (hn : n ≤ m) : bFm f m := ⟨by have := h.1; omega, h.2⟩
theorem len_chF2 {f : List I_Column} {c : I_Change} {B : Nat} (h : f.length ≤ B) (hB : 5 ≤ B) (hp : poss f c) : (chF f c).length ≤ B := by
  unfold chF
  split
  · rcases hp with e | e | ⟨e1, e2, e3, e4⟩
    · rw [List.length_insertIdx]; split <;> omega
    · omega
    · omega
  · split
    · rw [List.length_eraseIdx]; split <;> omega
    · rw [List.length_modify]; exact h
theorem len_fA {f : List I_Column} {l : List I_Change} {B : Nat} (h : f.length ≤ B) (hB : 5 ≤ B) (hg : gC f l) : ∀ (i : Nat), i ≤ l.length → (fA f l i).length ≤ B
  | 0, _ => h
  | i + 1, hi => by
    rw [fA_succ f (by omega)]
    exact len_chF2 (len_fA h hB hg i (by omega)) hB (hg i (by omega))
theorem fA_snoc (f : List I_Column) (l : List I_Change) (c : I_Change) : fA f (l ++ [c]) (l ++ [c]).length = chF (fA f l l.length) c := by
  rw [List.length_append, List.length_singleton, fA_succ f (by simp), fA_app f c (Nat.le_refl _), List.getElem_append_right (Nat.le_refl _)]; simp
theorem of_size {l : List ByteArray} (h : l.all (fun x => decide (x.size ≤ 100)) = true) {x : ByteArray} (hx : x ∈ l) : x.size ≤ 5000000 := by
  have := of_decide_eq_true (List.all_eq_true.1 h x hx); omega
theorem zV_b : bV ⟨0, 0, ByteArray.empty⟩ := ⟨by constructor <;> decide, by decide⟩
theorem bR_snoc {r : List I_Value} {v : I_Value} {n : Nat} (h : r.length ≤ n ∧ ∀ x ∈ r, bV x) (hv : bV v) : (r ++ [v]).length ≤ n + 1 ∧ ∀ x ∈ r ++ [v], bV x := ⟨by simp; omega, fun x hx => by
  rcases List.mem_append.1 hx with h1 | h1
  · exact h.2 x h1
  · rw [List.mem_singleton.1 h1]; exact hv⟩
section
variable {N : Nat} (hN : 100000000 ≤ N)
include hN
omit hN in
theorem pickB {r : S_reader} {c n : Int} (h : RdB r c) (hc : c ≤ 1000000000) (hn : n ≤ 4000000000) : ok (m_S_reader_pick N r n) fun x => RdB x.2 (c + 1) ∧ 0 ≤ x.1 ∧ (x.1 < n ∨ x.1 = 0) := by
  have h1 := h.1
  have h2 := h.2.1
  have h3 := h.2.2
  refine (pick_ok N (by omega) (by omega) hn).mono ?_
  rintro ⟨x, r'⟩ ⟨e, e1, e2⟩
  dsimp only at *
  subst e
  exact ⟨⟨h1, by show 0 ≤ r.p + 1; omega, by show r.p + 1 ≤ _; omega⟩, e1, e2⟩
omit hN in
theorem oneB {r : S_reader} {c : Int} {l : List Int} (h : RdB r c) (hc : c ≤ 1000000000) (hl : 0 < l.length) (hl' : l.length ≤ 1000) : ok (m_S_reader_one N r l) fun x => RdB x.2 (c + 1) ∧ x.1 ∈ l := by
  have h1 := h.1
  have h2 := h.2.1
  have h3 := h.2.2
  refine (one_ok N (by omega) (by omega) hl hl').mono ?_
  rintro ⟨x, r'⟩ ⟨e, e1⟩
  dsimp only at *
  subst e
  exact ⟨⟨h1, by show 0 ≤ r.p + 1; omega, by show r.p + 1 ≤ _; omega⟩, e1⟩
omit hN in
theorem ofB {r : S_reader} {c : Int} {l : List ByteArray} (h : RdB r c) (hc : c ≤ 1000000000) (hl : 0 < l.length) (hl' : l.length ≤ 1000) : ok (m_S_reader_of N r l) fun x => RdB x.2 (c + 1) ∧ x.1 ∈ l := by
  have h1 := h.1
  have h2 := h.2.1
  have h3 := h.2.2
  refine (of_ok N (by omega) (by omega) hl hl').mono ?_
  rintro ⟨x, r'⟩ ⟨e, e1⟩
  dsimp only at *
  subst e
  exact ⟨⟨h1, by show 0 ≤ r.p + 1; omega, by show r.p + 1 ≤ _; omega⟩, e1⟩
omit hN in
theorem newB (l : List UInt8) : ok (m_S_newReader N l) fun r => RdB r 0 := (newReader_ok N l).mono fun r h => ⟨h.1, by have := h.2; omega, by have := h.2; omega⟩
omit hN in
theorem valB {r : S_reader} {c k : Int} (h : RdB r c) (hc : c ≤ 900000000) : ok (m_S_randomValue N r k) fun x => RdB x.2 (c + 4) ∧ bV x.1 := by
  have e0 : ByteArray.empty.size = 0 := rfl
  have hnum : ∀ (r : S_reader) (d : Int) (k : Int), RdB r d → d ≤ 950000000 → ok ((m_S_reader_pick N r (250 : Int)).bind fun r8 => (chk (r8.1 * (777 : Int))).bind fun n10 => (m_S_reader_one N r8.2 [(0 : Int), (1 : Int), (7 : Int), (-7 : Int), (79 : Int), (80 : Int), (4000 : Int), (200000 : Int), (999999 : Int), (-999999 : Int), n10]).bind fun r12 => some ((I_Value.mk k r12.1 ByteArray.empty), r12.2)) fun x => RdB x.2 (d + 2) ∧ bV x.1 := by
    intro r d k hr hd
    refine ok.call (pickB hr (by omega) (by omega)) ?_
    rintro ⟨x, r1⟩ ⟨h1, h2, h3⟩
    refine ok.chk (by dsimp only at *; omega) (ok.call (oneB h1 (by omega) (by simp) (by simp)) ?_)
    rintro ⟨y, r2⟩ ⟨h4, h5⟩
    dsimp only at *
    refine ok.some ⟨h4.mono (by omega), ⟨?_, by dsimp only; omega⟩⟩
    dsimp only
    simp only [List.mem_cons, List.not_mem_nil, or_false] at h5
    omega
  have htxt : ∀ (r : S_reader) (d : Int) (k : Int), RdB r d → d ≤ 950000000 → ok ((m_S_reader_of N r ([ByteArray.empty, (ByteArray.mk #[97]), (ByteArray.mk #[97, 98]), (ByteArray.mk #[98]), (ByteArray.mk #[49, 50]), (ByteArray.mk #[45, 55]), (ByteArray.mk #[126, 126]), (ByteArray.mk #[97, 32, 98]), (ByteArray.mk #[97, 98, 99, 100, 101, 102, 103, 104, 105, 106, 107, 108]), (ByteArray.mk #[32])])).bind fun r15 => some ((I_Value.mk k (0 : Int) r15.1), r15.2)) fun x => RdB x.2 (d + 1) ∧ bV x.1 := by
    intro r d k hr hd
    refine ok.call (ofB hr (by omega) (by simp) (by simp)) ?_
    rintro ⟨y, r2⟩ ⟨h4, h5⟩
    exact ok.some ⟨h4, ⟨by dsimp only; omega, of_size (by rfl) h5⟩⟩
  unfold m_S_randomValue
  refine ok.ite (fun _ => ok.call (pickB h (by omega) (by omega)) ?_) fun _ => ok.call (pickB h (by omega) (by omega)) ?_
  · rintro ⟨x, r1⟩ ⟨h1, h2, h3⟩
    refine ok.call (pickB h1 (by omega) (by omega)) ?_
    rintro ⟨y, r2⟩ ⟨h4, h5, h6⟩
    refine ok.ite (fun _ => ok.some ⟨h4.mono (by omega), zV_b⟩) fun _ => ok.ite (fun _ => (hnum _ _ _ h4 (by omega)).mono fun x hx => ⟨hx.1.mono (by omega), hx.2⟩) fun _ => ok.ite (fun _ => (htxt _ _ _ h4 (by omega)).mono fun x hx => ⟨hx.1.mono (by omega), hx.2⟩) fun _ => ok.some ⟨h4.mono (by omega), zV_b⟩
  · rintro ⟨y, r2⟩ ⟨h4, h5, h6⟩
    refine ok.ite (fun _ => ok.some ⟨h4.mono (by omega), zV_b⟩) fun _ => ok.ite (fun _ => (hnum _ _ _ h4 (by omega)).mono fun x hx => ⟨hx.1.mono (by omega), hx.2⟩) fun _ => ok.ite (fun _ => (htxt _ _ _ h4 (by omega)).mono fun x hx => ⟨hx.1.mono (by omega), hx.2⟩) fun _ => ok.some ⟨h4.mono (by omega), zV_b⟩
omit hN in
theorem colB {r : S_reader} {c : Int} (h : RdB r c) (hc : c ≤ 800000000) : ok (m_S_randomColumn N r) fun x => RdB x.2 (c + 5) ∧ bV x.1.default := by
  unfold m_S_randomColumn
  refine ok.call (pickB h (by omega) (by omega)) ?_
  rintro ⟨x, r1⟩ ⟨h1, h2, h3⟩
  refine ok.chk (by dsimp only at *; omega) (ok.call (valB h1 (by omega)) ?_)
  rintro ⟨y, r2⟩ ⟨h4, h5⟩
  exact ok.some ⟨h4.mono (by omega), h5⟩
omit hN in
theorem bFm_snoc {f : List I_Column} {n : Nat} {x : I_Column} (h : bFm f n) (hx : bV x.default) : bFm (f ++ [x]) (n + 1) := ⟨by have := h.1; simp; omega, fun y hy => by
  rcases List.mem_append.1 hy with h1 | h1
  · exact h.2 y h1
  · rw [List.mem_singleton.1 h1]; exact hx⟩
theorem fmtB {r : S_reader} {c : Int} (h : RdB r c) (hc : c ≤ 700000000) : ok (m_S_randomFormat N r) fun x => RdB x.2 (c + 26) ∧ bFm x.1 5 ∧ 1 ≤ x.1.length := by
  unfold m_S_randomFormat
  refine ok.call (oneB h (by omega) (by simp) (by simp)) ?_
  rintro ⟨n, r1⟩ ⟨h1, h2⟩
  have hn : 1 ≤ n ∧ n ≤ 5 := by
    simp only [List.mem_cons, List.not_mem_nil, or_false] at h2
    omega
  obtain ⟨n, rfl⟩ : ∃ m : Nat, n = m := ⟨n.toNat, by omega⟩
  refine ok.call (P := fun e => RdB ⟨e.1, e.2.1⟩ (c + 26) ∧ bFm e.2.2 5 ∧ e.2.2.length = n) (ok.each n (fun i s => s.1 = ((n - i : Nat) : Int) ∧ RdB ⟨s.2.1, s.2.2.1⟩ (c + 1 + 5 * i) ∧ bFm s.2.2.2 i ∧ s.2.2.2.length = i) _ ?_ ?_ N 0 _ (Nat.zero_le _) ⟨rfl, h1.mono (by omega), ⟨Nat.zero_le _, fun c h => by cases h⟩, rfl⟩ (by omega)) ?_
  · rintro i ⟨s1, s2, s3, s4⟩ hi ⟨h3, h4, h5, h6⟩
    dsimp only at *
    unfold m_S_randomFormat_b1
    refine ok.ift (by omega) (ok.call (colB h4 (by omega)) ?_)
    rintro ⟨x, r2⟩ ⟨h7, h8⟩
    dsimp only at *
    refine ok.app (by simp; omega) (ok.chk (by omega) (ok.some ⟨by dsimp only; omega, h7.mono (by omega), bFm_snoc h5 h8, by simp; omega⟩))
  · rintro ⟨s1, s2, s3, s4⟩ ⟨h3, h4, h5, h6⟩
    dsimp only at *
    unfold m_S_randomFormat_b1
    exact ok.iff (by omega) (ok.some ⟨h4.mono (by omega), h5.mono (by omega), h6⟩)
  · rintro ⟨e1, e2, e3⟩ ⟨h3, h4, h5⟩
    exact ok.some ⟨h3, h4, by dsimp only at *; omega⟩
theorem chgB' {r : S_reader} {f : List I_Column} {c : Int} (h : RdB r c) (hc : c ≤ 600000000) (hf : bN f) (hfl : f.length ≤ 7) : ok (m_S_randomChange N r f) fun x => RdB x.2 (c + 42) ∧ bV x.1.column.default := by
  unfold m_S_randomChange
  refine ok.call (P := fun o => match o with | .inl e => RdB ⟨e.1, e.2⟩ (c + 42) | .inr v => RdB v.2 (c + 42) ∧ bV v.1.column.default) (ok.each 6 (fun i s => s.1 = (i : Int) ∧ RdB ⟨s.2.1, s.2.2⟩ (c + 7 * i)) _ ?_ ?_ N 0 _ (Nat.zero_le _) ⟨rfl, h.mono (by omega)⟩ (by omega)) ?_
  · rintro i ⟨s1, s2, s3⟩ hi ⟨h3, h4⟩
    dsimp only at *
    unfold m_S_randomChange_b1
    refine ok.ift (by omega) (ok.call (pickB h4 (by omega) (by omega)) ?_)
    rintro ⟨x, r2⟩ ⟨h5, h6, h7⟩
    dsimp only at *
    refine ok.chk (by omega) (ok.chk (by omega) (ok.call (pickB h5 (by omega) (by omega)) ?_))
    rintro ⟨y, r3⟩ ⟨h8, h9, h10⟩
    dsimp only at *
    refine ok.ite (fun hk => ok.call (colB h8 (by omega)) ?_) fun hk => ok.eq (chFS hN (by omega) hf (by show ByteArray.empty.size ≤ _; decide)) ?_
    · rintro ⟨z, r4⟩ ⟨h11, h12⟩
      dsimp only at *
      refine ok.eq (chFS hN (by omega) hf h12.2) (ok.cond (fun _ => ok.some ⟨h11.mono (by omega), h12⟩) fun _ => ok.chk (by omega) (ok.some ⟨by dsimp only; omega, h11.mono (by omega)⟩))
    · refine ok.cond (fun _ => ok.some ⟨h8.mono (by omega), zV_b⟩) fun _ => ok.chk (by omega) (ok.some ⟨by dsimp only; omega, h8.mono (by omega)⟩)
  · rintro ⟨s1, s2, s3⟩ ⟨h3, h4⟩
    dsimp only at *
    unfold m_S_randomChange_b1
    exact ok.iff (by omega) (ok.some (h4.mono (by omega)))
  · rintro (⟨e1, e2⟩ | v) h3
    · exact ok.some ⟨h3, zV_b⟩
    · exact ok.some h3
omit hN in
theorem bCs_snoc {l : List I_Change} {x : I_Change} {n : Nat} (h : l.length ≤ n ∧ ∀ c ∈ l, bV c.column.default) (hx : bV x.column.default) : (l ++ [x]).length ≤ n + 1 ∧ ∀ c ∈ l ++ [x], bV c.column.default := ⟨by simp; omega, fun y hy => by
  rcases List.mem_append.1 hy with h1 | h1
  · exact h.2 y h1
  · rw [List.mem_singleton.1 h1]; exact hx⟩
theorem rchainB {r : S_reader} {c : Int} (h : RdB r c) (hc : c ≤ 500000000) : ok (m_S_randomChain N r) fun x => RdB x.2.2 (c + 400) ∧ (bFm x.1 5 ∧ 1 ≤ x.1.length) ∧ (x.2.1.length ≤ 8 ∧ ∀ c ∈ x.2.1, bV c.column.default) ∧ gC x.1 x.2.1 := by
  unfold m_S_randomChain
  refine ok.call (fmtB hN h (by omega)) ?_
  rintro ⟨f, r1⟩ ⟨h1, h2, h2'⟩
  refine ok.call (oneB h1 (by omega) (by simp) (by simp)) ?_
  rintro ⟨n, r2⟩ ⟨h3, h4⟩
  have hn : 0 ≤ n ∧ n ≤ 8 := by
    simp only [List.mem_cons, List.not_mem_nil, or_false] at h4
    omega
  obtain ⟨n, rfl⟩ : ∃ m : Nat, n = m := ⟨n.toNat, by omega⟩
  dsimp only at *
  refine ok.call (P := fun e => RdB ⟨e.1, e.2.1⟩ (c + 400) ∧ (e.2.2.length ≤ 8 ∧ ∀ c ∈ e.2.2, bV c.column.default) ∧ gC f e.2.2) (ok.each n (fun i s => s.1 = fA f s.2.2.2.2 s.2.2.2.2.length ∧ s.2.1 = ((n - i : Nat) : Int) ∧ RdB ⟨s.2.2.1, s.2.2.2.1⟩ (c + 27 + 42 * i) ∧ (s.2.2.2.2.length ≤ i ∧ ∀ c ∈ s.2.2.2.2, bV c.column.default) ∧ gC f s.2.2.2.2) _ ?_ ?_ N 0 _ (Nat.zero_le _) ⟨rfl, rfl, h3.mono (by omega), ⟨Nat.zero_le _, fun c h => by cases h⟩, fun i h => absurd h (Nat.not_lt_zero _)⟩ (by omega)) ?_
  · rintro i ⟨s1, s2, s3, s4, s5⟩ hi ⟨h5, h6, h7, h8, h9⟩
    dsimp only at *
    subst h5
    have hl6 := len_fA (B := 5) h2.1 (by omega) h9 s5.length (Nat.le_refl _)
    have hbn := bN_fA h2.bN (by have := h2.1; omega) s5.length (Nat.le_refl _) fun k hk _ => h9 k hk
    unfold m_S_randomChain_b1
    refine ok.ift (by omega) ?_
    refine ok.call (chgB' hN h7 (by omega) hbn.1 (by omega)) ?_
    rintro ⟨x, r3⟩ ⟨h10, h11⟩
    dsimp only at *
    refine ok.eq (chFS hN hbn.2 hbn.1 h11.2) ?_
    by_cases hp : poss (fA f s5 s5.length) x
    · rw [if_pos hp]
      have h12 := bCs_snoc h8 h11
      refine ok.bt rfl (ok.app (by have := h12.1; simp at this ⊢; omega) (ok.chk (by omega) (ok.some ⟨?_, by dsimp only; omega, h10.mono (by omega), h12, gC_app.2 ⟨h9, hp⟩⟩)))
      show chF _ _ = fA f (s5 ++ [x]) (s5 ++ [x]).length
      rw [fA_snoc]
    · rw [if_neg hp]
      exact ok.bf rfl (ok.chk (by omega) (ok.some ⟨rfl, by dsimp only; omega, h10.mono (by omega), ⟨by have := h8.1; dsimp only; omega, h8.2⟩, h9⟩))
  · rintro ⟨s1, s2, s3, s4, s5⟩ ⟨h5, h6, h7, h8, h9⟩
    dsimp only at *
    unfold m_S_randomChain_b1
    exact ok.iff (by omega) (ok.some ⟨h7.mono (by omega), ⟨by have := h8.1; dsimp only; omega, h8.2⟩, h9⟩)
  · rintro ⟨e1, e2, e3⟩ ⟨h5, h6, h7⟩
    exact ok.some ⟨h5, ⟨h2, h2'⟩, h6, h7⟩
omit hN in
theorem anyvalB {r : S_reader} {c : Int} (h : RdB r c) (hc : c ≤ 800000000) : ok (m_S_anyValue N r) fun x => RdB x.2 (c + 6) ∧ bV x.1 := by
  unfold m_S_anyValue
  refine ok.call (valB h (by omega)) ?_
  rintro ⟨v, r1⟩ ⟨h1, h2⟩
  refine ok.call (pickB h1 (by omega) (by omega)) ?_
  rintro ⟨y, r2⟩ ⟨h4, h5, h6⟩
  refine ok.ite (fun _ => ok.call (oneB h4 (by omega) (by simp) (by simp)) ?_) fun _ => ok.ite (fun _ => ok.call (ofB h4 (by omega) (by simp) (by simp)) ?_) fun _ => ok.ite (fun _ => ok.call (oneB h4 (by omega) (by simp) (by simp)) ?_) fun _ => ok.some ⟨h4.mono (by omega), h2⟩
  · rintro ⟨z, r3⟩ ⟨h7, h8⟩
    refine ok.some ⟨h7.mono (by omega), ⟨?_, h2.2⟩⟩
    dsimp only at *
    simp only [List.mem_cons, List.not_mem_nil, or_false] at h8
    omega
  · rintro ⟨z, r3⟩ ⟨h7, h8⟩
    exact ok.some ⟨h7.mono (by omega), ⟨h2.1, of_size (by rfl) h8⟩⟩
  · rintro ⟨z, r3⟩ ⟨h7, h8⟩
    exact ok.some ⟨h7.mono (by omega), h2⟩
omit hN in
theorem bFm_set {f : List I_Column} {n i : Nat} {x : I_Column} (h : bFm f n) (hx : bV x.default) : bFm (f.set i x) n := ⟨by rw [List.length_set]; exact h.1, fun y hy => by
  rcases List.mem_or_eq_of_mem_set hy with h1 | h1
  · exact h.2 y h1
  · rw [h1]; exact hx⟩
theorem anyfmtB {r : S_reader} {c : Int} (h : RdB r c) (hc : c ≤ 500000000) : ok (m_S_anyFormat N r) fun x => RdB x.2 (c + 60) ∧ bFm x.1 6 := by
  unfold m_S_anyFormat
  refine ok.call (fmtB hN h (by omega)) ?_
  rintro ⟨f, r1⟩ ⟨h1, h2, h2'⟩
  refine ok.call (pickB h1 (by omega) (by omega)) ?_
  rintro ⟨y, r2⟩ ⟨h4, h5, h6⟩
  dsimp only at *
  refine ok.ite (fun _ => ok.call (oneB h4 (by omega) (by simp) (by simp)) ?_) fun _ => ok.ite (fun _ => ok.call (anyvalB h4 (by omega)) ?_) fun _ => ok.ite (fun _ => ok.some ⟨h4.mono (by omega), Nat.zero_le _, fun c h => by cases h⟩) fun _ => ok.ite (fun _ => ?_) fun _ => ok.some ⟨h4.mono (by omega), h2.mono (by omega)⟩
  · rintro ⟨z, r3⟩ ⟨h7, h8⟩
    refine ok.eq (ixI_eq (n := 0) rfl (by omega)) (ok.some ⟨h7.mono (by omega), bFm_set (h2.mono (by omega)) (show bV (f[0]'(by omega)).default from h2.2 _ (List.getElem_mem _))⟩)
  · rintro ⟨z, r3⟩ ⟨h7, h8⟩
    refine ok.eq (ixI_eq (n := 0) rfl (by omega)) (ok.some ⟨h7.mono (by omega), bFm_set (h2.mono (by omega)) h8⟩)
  · have hl := h2.1
    refine ok.call (P := fun e => RdB ⟨e.1, e.2.1⟩ (c + 60) ∧ bFm e.2.2 6) (ok.each (6 - f.length) (fun i s => RdB ⟨s.1, s.2.1⟩ (c + 27 + 5 * i) ∧ bFm s.2.2 (f.length + i) ∧ s.2.2.length = f.length + i) _ ?_ ?_ N 0 _ (Nat.zero_le _) ⟨h4.mono (by omega), ⟨Nat.le_refl _, h2.2⟩, rfl⟩ (by omega)) ?_
    · rintro i ⟨s1, s2, s3⟩ hi ⟨h7, h8, h9⟩
      dsimp only at *
      unfold m_S_anyFormat_b1
      refine ok.ift (by omega) (ok.call (colB h7 (by omega)) ?_)
      rintro ⟨x, r3⟩ ⟨h10, h11⟩
      dsimp only at *
      exact ok.app (by simp; omega) (ok.some ⟨h10.mono (by omega), bFm_snoc h8 h11, by simp; omega⟩)
    · rintro ⟨s1, s2, s3⟩ ⟨h7, h8, h9⟩
      dsimp only at *
      unfold m_S_anyFormat_b1
      exact ok.iff (by omega) (ok.some ⟨h7.mono (by omega), h8.mono (by omega)⟩)
    · rintro ⟨e1, e2, e3⟩ ⟨h7, h8⟩
      exact ok.some ⟨h7, h8⟩
theorem anychgB {r : S_reader} {f : List I_Column} {c : Int} (h : RdB r c) (hc : c ≤ 500000000) (hf : bN f) (hfl : f.length ≤ 6) : ok (m_S_anyChange N r f) fun x => RdB x.2 (c + 50) ∧ bV x.1.column.default := by
  unfold m_S_anyChange
  refine ok.eq (copyS (by omega)) (ok.app (by simp; omega) (ok.eq (subM_eq (by simp; omega)) ?_))
  refine ok.call (chgB' hN h (by omega) (f := _) ?_ (by simp; omega)) ?_
  · intro x hx
    have hx' := List.mem_of_mem_drop (List.mem_of_mem_take hx)
    rcases List.mem_append.1 hx' with h1 | h1
    · exact hf x h1
    · rw [List.mem_singleton.1 h1]; exact ⟨by decide, by decide⟩
  rintro ⟨y, r2⟩ ⟨h4, h5⟩
  refine ok.call (pickB h4 (by omega) (by omega)) ?_
  rintro ⟨z, r3⟩ ⟨h6, h7⟩
  dsimp only at *
  refine ok.ite (fun _ => ok.call (oneB h6 (by omega) (by simp) (by simp)) ?_) fun _ => ok.ite (fun _ => ok.chk (by omega) (ok.call (oneB h6 (by omega) (by simp) (by simp)) ?_)) fun _ => ok.some ⟨h6.mono (by omega), h5⟩
  · rintro ⟨z, r3⟩ ⟨h7, h8⟩
    exact ok.some ⟨h7.mono (by omega), h5⟩
  · rintro ⟨z, r3⟩ ⟨h7, h8⟩
    exact ok.some ⟨h7.mono (by omega), h5⟩
theorem anychainB {r : S_reader} {c : Int} (h : RdB r c) (hc : c ≤ 400000000) : ok (m_S_anyChain N r) fun x => RdB x.2.2 (c + 500) ∧ bFm x.1 6 ∧ (x.2.1.length ≤ 9 ∧ ∀ c ∈ x.2.1, bV c.column.default) := by
  unfold m_S_anyChain
  refine ok.call (rchainB hN h (by omega)) ?_
  rintro ⟨f, l, r1⟩ ⟨h1, h2, h3, h3'⟩
  refine ok.call (pickB h1 (by omega) (by omega)) ?_
  rintro ⟨y, r2⟩ ⟨h4, h5, h6⟩
  dsimp only at *
  have hl8 := h3.1
  refine ok.ite (fun _ => ok.call (anyfmtB hN h4 (by omega)) ?_) fun _ => ok.ite (fun _ => ok.call (anychgB hN h4 (by omega) h2.1.bN (by have := h2.1.1; omega)) ?_) fun _ => ok.ite (fun _ => ?_) fun _ => ok.some ⟨h4.mono (by omega), h2.1.mono (by omega), by dsimp only; omega, h3.2⟩
  · rintro ⟨z, r3⟩ ⟨h7, h8⟩
    exact ok.some ⟨h7.mono (by omega), h8, by dsimp only; omega, h3.2⟩
  · rintro ⟨z, r3⟩ ⟨h7, h8⟩
    have h9 := bCs_snoc h3 h8
    exact ok.app (by simp; omega) (ok.some ⟨h7.mono (by omega), h2.1.mono (by omega), h9⟩)
  · refine ok.call (P := fun e => e.length ≤ 9 ∧ ∀ c ∈ e, bV c.column.default) (ok.each (9 - l.length) (fun i s => (s.length ≤ l.length + i ∧ ∀ c ∈ s, bV c.column.default) ∧ s.length = l.length + i) _ ?_ ?_ N 0 _ (Nat.zero_le _) ⟨⟨Nat.le_refl _, h3.2⟩, rfl⟩ (by omega)) ?_
    · rintro i s hi ⟨h7, h8⟩
      unfold m_S_anyChain_b1
      have h9 := bCs_snoc h7 (x := I_Change.mk (3 : Int) (0 : Int) (I_Column.mk (0 : Int) (I_Value.mk (0 : Int) (0 : Int) ByteArray.empty))) zV_b
      exact ok.ift (by omega) (ok.app (by simp; omega) (ok.some ⟨h9, by simp; omega⟩))
    · rintro s ⟨h7, h8⟩
      unfold m_S_anyChain_b1
      exact ok.iff (by omega) (ok.some ⟨by omega, h7.2⟩)
    · rintro e h7
      exact ok.some ⟨h4.mono (by omega), h2.1.mono (by omega), h7⟩
theorem rrowB {r : S_reader} {f : List I_Column} {c : Int} (h : RdB r c) (hc : c ≤ 500000000) (hfl : f.length ≤ 6) : ok (m_S_randomRow N r f) fun x => RdB x.2 (c + 24) ∧ x.1.length ≤ 6 ∧ ∀ v ∈ x.1, bV v := by
  unfold m_S_randomRow
  refine ok.call (P := fun e => RdB ⟨e.1, e.2.1⟩ (c + 24) ∧ e.2.2.length ≤ 6 ∧ ∀ v ∈ e.2.2, bV v) (ok.each f.length (fun i s => s.1 = (i : Int) ∧ RdB ⟨s.2.1, s.2.2.1⟩ (c + 4 * i) ∧ (s.2.2.2.length ≤ i ∧ ∀ v ∈ s.2.2.2, bV v)) _ ?_ ?_ N 0 _ (Nat.zero_le _) ⟨rfl, h.mono (by omega), Nat.zero_le _, fun c h => by cases h⟩ (by omega)) ?_
  · rintro i ⟨s1, s2, s3, s4⟩ hi ⟨h3, h4, h5⟩
    dsimp only at *
    subst h3
    unfold m_S_randomRow_b1
    refine ok.ift (by omega) (ok.eq (ixI_nat hi) (ok.call (valB h4 (by omega)) ?_))
    rintro ⟨x, r2⟩ ⟨h7, h8⟩
    dsimp only at *
    have := h5.1
    refine ok.app (by simp; omega) (ok.chk (by omega) (ok.some ⟨by simp, h7.mono (by omega), bR_snoc h5 h8⟩))
  · rintro ⟨s1, s2, s3, s4⟩ ⟨h3, h4, h5⟩
    dsimp only at *
    subst h3
    unfold m_S_randomRow_b1
    exact ok.iff (by omega) (ok.some ⟨h4.mono (by omega), by have := h5.1; dsimp only; omega, h5.2⟩)
  · rintro ⟨e1, e2, e3⟩ h3
    exact ok.some h3
theorem anyrowB {r : S_reader} {c : Int} (h : RdB r c) (hc : c ≤ 500000000) : ok (m_S_anyRow N r) fun x => RdB x.2 (c + 40) ∧ x.1.length ≤ 6 ∧ ∀ v ∈ x.1, bV v := by
  unfold m_S_anyRow
  refine ok.call (oneB h (by omega) (by simp) (by simp)) ?_
  rintro ⟨n, r2⟩ ⟨h3, h4⟩
  have hn : 0 ≤ n ∧ n ≤ 6 := by
    simp only [List.mem_cons, List.not_mem_nil, or_false] at h4
    omega
  obtain ⟨n, rfl⟩ : ∃ m : Nat, n = m := ⟨n.toNat, by omega⟩
  dsimp only at *
  refine ok.call (P := fun e => RdB ⟨e.1, e.2.1⟩ (c + 25) ∧ e.2.2.length ≤ 6 ∧ ∀ v ∈ e.2.2, bV v) (ok.each n (fun i s => s.1 = ((n - i : Nat) : Int) ∧ RdB ⟨s.2.1, s.2.2.1⟩ (c + 1 + 4 * i) ∧ (s.2.2.2.length ≤ i ∧ ∀ v ∈ s.2.2.2, bV v)) _ ?_ ?_ N 0 _ (Nat.zero_le _) ⟨rfl, h3.mono (by omega), Nat.zero_le _, fun c h => by cases h⟩ (by omega)) ?_
  · rintro i ⟨s1, s2, s3, s4⟩ hi ⟨h3, h4, h5⟩
    dsimp only at *
    unfold m_S_anyRow_b1
    refine ok.ift (by omega) (ok.call (valB h4 (by omega)) ?_)
    rintro ⟨x, r2⟩ ⟨h7, h8⟩
    dsimp only at *
    have := h5.1
    refine ok.app (by simp; omega) (ok.chk (by omega) (ok.some ⟨by dsimp only; omega, h7.mono (by omega), bR_snoc h5 h8⟩))
  · rintro ⟨s1, s2, s3, s4⟩ ⟨h3, h4, h5⟩
    dsimp only at *
    unfold m_S_anyRow_b1
    exact ok.iff (by omega) (ok.some ⟨h4.mono (by omega), by have := h5.1; dsimp only; omega, h5.2⟩)
  · rintro ⟨e1, e2, e3⟩ ⟨h4, h5, h6⟩
    dsimp only at *
    show ok (m_S_anyRow_k1 N _ _ _) _
    unfold m_S_anyRow_k1
    refine ok.ite (fun h0 => ok.call (pickB h4 (by omega) (by omega)) ?_) fun h0 => ok.some ⟨h4.mono (by omega), h5, h6⟩
    rintro ⟨y, r3⟩ ⟨h7, h8, h9⟩
    refine ok.ite (fun _ => ok.call (pickB h7 (by omega) (by omega)) ?_) fun _ => ok.some ⟨h7.mono (by omega), h5, h6⟩
    rintro ⟨z, r4⟩ ⟨h10, h11, h12⟩
    dsimp only at *
    refine ok.call (anyvalB h10 (by omega)) ?_
    rintro ⟨v, r5⟩ ⟨h13, h14⟩
    dsimp only at *
    refine ok.ix (by omega) (by omega) fun m hm he => ok.some ⟨h13.mono (by omega), by rw [List.length_set]; exact h5, fun x hx => ?_⟩
    rcases List.mem_or_eq_of_mem_set hx with h1 | h1
    · exact h6 x h1
    · rw [h1]; exact h14
end
end V
end Go.Proofs.YthhlkedkeefgnaaDoor
namespace Go.Proofs.YthhlkedkeefgnaaDoor
namespace V
set_option linter.unusedVariables false
set_option linter.unusedSimpArgs false
set_option maxHeartbeats 1000000
def rOk (l : List I_Tagged) (n : Nat) : Prop := l.length ≤ n ∧ ∀ r ∈ l, r.row.length ≤ 6 ∧ ∀ v ∈ r.row, bV v
theorem rOk.snoc {l : List I_Tagged} {n : Nat} {x : I_Tagged} (h : rOk l n) (hx : x.row.length ≤ 6 ∧ ∀ v ∈ x.row, bV v) : rOk (l ++ [x]) (n + 1) := ⟨by have := h.1; simp; omega, fun y hy => by
  rcases List.mem_append.1 hy with h1 | h1
  · exact h.2 y h1
  · rw [List.mem_singleton.1 h1]; exact hx⟩
/-- A table that is drawn is small. -/
def dT (t : I_Table) : Prop := bFm t.first 6 ∧ (t.changes.length ≤ 9 ∧ ∀ c ∈ t.changes, bV c.column.default) ∧ rOk t.rows 11
theorem dT.bT {t : I_Table} (h : dT t) : bT t := ⟨h.1.bS (by omega), ⟨by have := h.2.1.1; omega, fun c hc => (h.2.1.2 c hc).2⟩, by have := h.2.2.1; omega, fun i hi => by
  have := h.2.2.2 _ (List.getElem_mem hi)
  exact ⟨by omega, fun v hv => (this.2 v hv).2⟩⟩
section
variable {N : Nat} (hN : 100000000 ≤ N)
include hN
theorem tabB {r : S_reader} {c : Int} (h : RdB r c) (hc : c ≤ 1000) : ok (m_S_anyTable2 N r) fun x => RdB x.2 (c + 3000) ∧ dT x.1 := by
  unfold m_S_anyTable2
  refine ok.call (rchainB hN h (by omega)) ?_
  rintro ⟨f, l, r1⟩ ⟨h1, h2, h3, hg⟩
  dsimp only at *
  have hl8 := h3.1
  have hf5 := h2.1.1
  refine ok.eq (formatsS hN (by omega) h2.1.bN ⟨by omega, fun c hc => (h3.2 c hc).2⟩) ?_
  rw [if_pos hg]
  refine ok.call (oneB h1 (by omega) (by simp) (by simp)) ?_
  rintro ⟨n, r2⟩ ⟨h4, h5⟩
  have hn : 0 ≤ n ∧ n ≤ 10 := by
    simp only [List.mem_cons, List.not_mem_nil, or_false] at h5
    omega
  obtain ⟨n, rfl⟩ : ∃ m : Nat, n = m := ⟨n.toNat, by omega⟩
  have hlen := chs_len f l
  have hrow : ∀ (r : S_reader) (g : List I_Column) (d : Int), RdB r d → d ≤ 100000 → g.length ≤ 6 → ok (m_S_randomRow N r g) fun x => RdB x.2 (d + 24) ∧ x.1.length ≤ 6 ∧ ∀ v ∈ x.1, bV v := fun r g d hr hd hg => rrowB hN hr (by omega) hg
  refine ok.call (P := fun e => RdB ⟨e.1, e.2.1⟩ (c + 401 + 250) ∧ rOk e.2.2 10) (ok.each n (fun i s => s.1 = ((n - i : Nat) : Int) ∧ RdB ⟨s.2.1, s.2.2.1⟩ (c + 401 + 25 * i) ∧ rOk s.2.2.2 i) _ ?_ ?_ N 0 _ (Nat.zero_le _) ⟨rfl, h4.mono (by omega), Nat.zero_le _, fun c h => by cases h⟩ (by omega)) ?_
  · rintro i ⟨s1, s2, s3, s4⟩ hi ⟨h6, h7, h8⟩
    dsimp only at *
    unfold m_S_anyTable2_b1
    refine ok.ift (by omega) (ok.call (pickB h7 (by omega) (by dsimp only; omega)) ?_)
    rintro ⟨x, r3⟩ ⟨h9, h10, h11⟩
    dsimp only at *
    refine ok.eq (chs_ix (n := x.toNat) (by omega) (by omega)) (ok.call (hrow _ _ _ h9 (by omega) (len_fA (by omega) (by omega) hg _ (by omega))) ?_)
    rintro ⟨y, r4⟩ ⟨h12, h13⟩
    dsimp only at *
    have := h8.1
    exact ok.app (by simp; omega) (ok.chk (by omega) (ok.some ⟨by dsimp only; omega, h12.mono (by omega), h8.snoc h13⟩))
  · rintro ⟨s1, s2, s3, s4⟩ ⟨h6, h7, h8⟩
    dsimp only at *
    unfold m_S_anyTable2_b1
    exact ok.iff (by omega) (ok.some ⟨h7.mono (by omega), by have := h8.1; dsimp only; omega, h8.2⟩)
  · rintro ⟨e1, e2, e3⟩ ⟨h6, h7⟩
    dsimp only at *
    show ok (m_S_anyTable2_k1 N _ _ _ _ _) _
    unfold m_S_anyTable2_k1
    have h71 := h7.1
    refine ok.call (pickB h6 (by omega) (by omega)) ?_
    rintro ⟨y, r3⟩ ⟨h8, h9, h10⟩
    dsimp only at *
    refine ok.ite (fun _ => ok.call (anychainB hN h8 (by omega)) ?_) fun _ => ok.ite (fun _ => ok.call (oneB h8 (by omega) (by simp) (by simp)) ?_) fun _ => ok.ite (fun _ => ?_) fun _ => ok.some ⟨h8.mono (by omega), h2.1.mono (by omega), ⟨by dsimp only; omega, h3.2⟩, by dsimp only; omega, h7.2⟩
    · rintro ⟨f', l', r4⟩ ⟨h11, h12, h13⟩
      exact ok.some ⟨h11.mono (by omega), h12, h13, by dsimp only; omega, h7.2⟩
    · rintro ⟨z, r4⟩ ⟨h11, h12⟩
      refine ok.call (anyrowB hN h11 (by omega)) ?_
      rintro ⟨w, r5⟩ ⟨h13, h14⟩
      dsimp only at *
      exact ok.app (by simp; omega) (ok.some ⟨h13.mono (by omega), h2.1.mono (by omega), ⟨by dsimp only; omega, h3.2⟩, h7.snoc h14⟩)
    · refine ok.call (P := fun e => RdB ⟨e.1, e.2.1⟩ (c + 652 + 275) ∧ rOk e.2.2 11) (ok.each (11 - e3.length) (fun i s => RdB ⟨s.1, s.2.1⟩ (c + 652 + 25 * i) ∧ rOk s.2.2 (e3.length + i) ∧ s.2.2.length = e3.length + i) _ ?_ ?_ N 0 _ (Nat.zero_le _) ⟨h8.mono (by omega), ⟨Nat.le_refl _, h7.2⟩, rfl⟩ (by omega)) ?_
      · rintro i ⟨s1, s2, s3⟩ hi ⟨h11, h12, h13⟩
        dsimp only at *
        unfold m_S_anyTable2_b2
        refine ok.ift (by omega) (ok.call (hrow _ _ _ h11 (by omega) (by dsimp only; omega)) ?_)
        rintro ⟨x, r4⟩ ⟨h14, h15⟩
        dsimp only at *
        exact ok.app (by simp; omega) (ok.some ⟨h14.mono (by omega), h12.snoc h15, by simp; omega⟩)
      · rintro ⟨s1, s2, s3⟩ ⟨h11, h12, h13⟩
        dsimp only at *
        unfold m_S_anyTable2_b2
        exact ok.iff (by omega) (ok.some ⟨h11.mono (by omega), by have := h12.1; dsimp only; omega, h12.2⟩)
      · rintro ⟨e1, e2, e3⟩ ⟨h11, h12⟩
        exact ok.some ⟨RdB.mono h11 (by omega), h2.1.mono (by omega), ⟨by dsimp only; omega, h3.2⟩, h12⟩
theorem chainS {f : List I_Column} {l : List I_Change} (hb : bS f) (hc : bCs l) : m_S_ChainOf N f l = some (if cO f l then (chs f l, true) else ([], false)) := by
  refine ok.val ?_
  unfold m_S_ChainOf
  refine ok.eq (vFS hN hb) (ok.ite (fun hv => ok.ite (fun h8 => ok.some ?_) fun h8 => ok.eq (formatsS hN hb.1 (vF_bN hv) hc) (ok.some ?_)) fun hv => ok.some ?_)
  · rw [if_neg fun e : cO f l => by have := e.2.1; omega]
  · by_cases hg : gC f l
    · rw [if_pos hg, if_pos (show cO f l from ⟨hv, by omega, hg⟩)]
    · rw [if_neg hg, if_neg fun e : cO f l => hg e.2.2]
  · rw [if_neg fun e : cO f l => hv e.1]
theorem lfB {t : I_Table} (h : dT t) : ok (m_S_lastFormat N t) fun f => bN f ∧ f.length ≤ 6 := by
  have hb := h.bT
  unfold m_S_lastFormat
  refine ok.eq (chainS hN hb.f hb.c) ?_
  by_cases ho : cO t.first t.changes
  · rw [if_pos ho]
    have hlen := chs_len t.first t.changes
    have h8 := ho.2.1
    refine ok.bt rfl (ok.chk (by dsimp only; omega) (ok.eq (chs_ix (n := t.changes.length) (by dsimp only; omega) (Nat.le_refl _)) (ok.some ⟨?_, len_fA h.1.1 (by omega) ho.2.2 _ (Nat.le_refl _)⟩)))
    exact (bN_fA h.1.bN (by have := h.1.1; omega) _ (Nat.le_refl _) fun k hk _ => ho.2.2 k hk).1
  · rw [if_neg ho]
    exact ok.bf rfl (ok.some ⟨h.1.bN, h.1.1⟩)
theorem somerowB {r : S_reader} {f : List I_Column} {c : Int} (h : RdB r c) (hc : c ≤ 100000000) (hfl : f.length ≤ 6) : ok (m_S_someRow N r f) fun x => x.1.length ≤ 6 ∧ ∀ v ∈ x.1, bV v := by
  unfold m_S_someRow
  refine ok.call (pickB h (by omega) (by omega)) ?_
  rintro ⟨y, r3⟩ ⟨h8, h9, h10⟩
  refine ok.ite (fun _ => ok.call (anyrowB hN h8 (by omega)) ?_) fun _ => ok.call (rrowB hN h8 (by omega) hfl) ?_
  · rintro ⟨z, r4⟩ ⟨h11, h12⟩
    exact ok.some h12
  · rintro ⟨z, r4⟩ ⟨h11, h12⟩
    exact ok.some h12
omit hN in
theorem bV_bR {r : List I_Value} (h : r.length ≤ 6 ∧ ∀ v ∈ r, bV v) : bR r := ⟨by omega, fun v hv => (h.2 v hv).2⟩
theorem drawT (l : List UInt8) : ok (m_S_newReader N l) fun r => ok (m_S_anyTable2 N r) fun x => RdB x.2 3000 ∧ dT x.1 := (newB l).mono fun r h => (tabB hN h (by omega)).mono fun x hx => ⟨hx.1.mono (by omega), hx.2⟩
theorem drawI (l : List UInt8) : ok (m_S_DrawInsertRow N l) fun x => bT x.1 ∧ bR x.2 := by
  unfold m_S_DrawInsertRow
  refine ok.call (drawT hN l) fun r h => ok.call h fun x hx => ok.call (lfB hN hx.2) fun f hf => ok.call (somerowB hN hx.1 (by omega) hf.2) fun y hy => ok.some ⟨hx.2.bT, bV_bR hy⟩
theorem drawA (l : List UInt8) : ok (m_S_DrawAlterTable N l) fun x => bT x.1 ∧ x.2.column.default.text.size ≤ 5000000 := by
  unfold m_S_DrawAlterTable
  refine ok.call (drawT hN l) fun r h => ok.call h fun x hx => ok.call (lfB hN hx.2) fun f hf => ok.call (anychgB hN hx.1 (by omega) hf.1 hf.2) fun y hy => ok.some ⟨hx.2.bT, hy.2.2⟩
end
end V
end Go.Proofs.YthhlkedkeefgnaaDoor
namespace Go.Proofs.YthhlkedkeefgnaaDoor
namespace V
set_option linter.unusedVariables false
set_option linter.unusedSimpArgs false
set_option maxHeartbeats 1000000
theorem insT_rw (t : I_Table) (r : List I_Value) (n : Nat) : rwT (insT t r) n = insT (rwT t n) r := by
  show (⟨t.first, t.changes, rwL (oldB t) (toL t) n (t.rows ++ [⟨t.changes.length, r⟩])⟩ : I_Table) = ⟨t.first, t.changes, rwL (oldB t) (toL t) n t.rows ++ [⟨t.changes.length, r⟩]⟩
  rw [rwL_app, rwL_one, if_neg (by unfold oldB; simp)]
theorem tR_len {t : I_Table} (h : tV t) : (tR t).length = t.rows.length := by unfold tR; rw [if_pos h, List.length_map]
theorem tR_get {t : I_Table} (h : tV t) {i : Nat} (hi : i < (tR t).length) (hi' : i < t.rows.length) : (tR t)[i] = adv t t.rows[i] := by
  have e : tR t = t.rows.map (adv t) := by unfold tR; rw [if_pos h]
  simp only [e, List.getElem_map]
theorem tR_ix {t : I_Table} (h : tV t) {i : Nat} (hi : i < t.rows.length) : ixI (tR t) (i : Int) = some (adv t t.rows[i]) := by
  have hl := tR_len h
  rw [ixI_nat (by omega), tR_get h (by omega) hi]
theorem adv_len {t : I_Table} (h : tV t) {i : Nat} (hi : i < t.rows.length) : (adv t t.rows[i]).length ≤ 5 := by
  have := adv_fit h (h.2.2 i hi)
  have := this.1
  have := (fL_v h).1
  omega
theorem tR_bd (t : I_Table) : (tR t).length ≤ 10 ∧ ∀ i (h : i < (tR t).length), (tR t)[i].length ≤ 5000000 := by
  by_cases h : tV t
  · have hl := tR_len h
    have := h.2.1
    refine ⟨by omega, fun i hi => ?_⟩
    rw [tR_get h hi (by omega)]
    have := adv_len h (i := i) (by omega); omega
  · have e : tR t = [] := by unfold tR; rw [if_neg h]
    rw [e]
    exact ⟨Nat.zero_le _, fun i hi => absurd hi (Nat.not_lt_zero _)⟩
theorem oldN_v {t : I_Table} (h : tV t) : oldN t = (t.rows.countP (oldB t) : Int) := by unfold oldN; rw [if_pos h]
section
variable {N : Nat} (hN : 100000000 ≤ N)
include hN
theorem eqRows' (t : I_Table) : m_L_equalRows N (tR t) (tR t) = some true := eqRows hN (by have := (tR_bd t).1; omega) (tR_bd t).2
omit hN in
theorem ins_b {t : I_Table} {r : List I_Value} (hb : bT t) : bT (if canI t r then (insT t r, true) else (noT, false)).1 := by
  by_cases h : canI t r
  · rw [if_pos h]; exact tV_bT (insT_v h) hb.c
  · rw [if_neg h]; exact noT_b
theorem lawFnInsertRow (l : List UInt8) (sl : Szd.szd l) : m_L_FnInsertRow N l = some true := by
  refine ok.val ?_
  unfold m_L_FnInsertRow
  refine ok.ite (fun _ => ok.some rfl) fun hl => ok.call (drawI hN l) ?_
  rintro ⟨t, r⟩ ⟨hb, hr⟩
  dsimp only at *
  have hbr := ins_b (r := r) hb
  refine ok.eq (insI hN hb hr) (ok.eq (insS hN hb hr) (ok.eq (eqTab hN hbr) (ok.bt rfl (ok.bt (beq_self_eq_true _) ?_))))
  by_cases h : canI t r
  · rw [if_pos h]
    have hv := h.1
    have hv' := insT_v h
    have hb' := tV_bT hv' hb.c
    have hl' := (tR_bd t).1
    have e : tR (insT t r) = tR t ++ [r] := by
      unfold tR
      rw [if_pos hv, if_pos hv']
      show (t.rows ++ [(⟨t.changes.length, r⟩ : I_Tagged)]).map (adv t) = _
      rw [List.map_append]
      show _ ++ [mA r t.changes ((t.changes.length : Int)).toNat t.changes.length] = _
      rw [Int.toNat_natCast, mA_self]
    have e2 : oldN (insT t r) = oldN t := by
      rw [oldN_v hv, oldN_v hv']
      show ((t.rows ++ [(⟨t.changes.length, r⟩ : I_Tagged)]).countP (oldB t) : Int) = _
      rw [List.countP_append, List.countP_singleton, if_neg (by unfold oldB; simp)]; simp
    refine ok.bt rfl (ok.eq (rowsI hN hb) (ok.eq (appM0 (by omega)) (ok.app (by simp; omega) (ok.eq (rowsI hN hb') ?_))))
    rw [← e]
    refine ok.eq (eqRows' hN _) (ok.bt rfl (ok.eq (oldI hN hb') (ok.eq (oldI hN hb) (ok.ift e2 (ok.eq (validTI hN hb') (ok.some (decide_eq_true hv')))))))
  · rw [if_neg h]
    exact ok.bf rfl (ok.eq (eqTab hN noT_b) (ok.some rfl))
theorem lawFnInsertRowRewrite (l : List UInt8) (sl : Szd.szd l) : m_L_FnInsertRowRewrite N l = some true := by
  refine ok.val ?_
  unfold m_L_FnInsertRowRewrite
  refine ok.ite (fun _ => ok.some rfl) fun hl => ok.call (drawI hN l) ?_
  rintro ⟨t, r⟩ ⟨hb, hr⟩
  dsimp only at *
  have hbr := ins_b (r := r) hb
  refine ok.eq (insI hN hb hr) (ok.eq (insS hN hb hr) (ok.eq (eqTab hN hbr) (ok.bt rfl (ok.bt (beq_self_eq_true _) ?_))))
  by_cases h : canI t r
  · rw [if_pos h]
    have hv := h.1
    have hv' := insT_v h
    have hb' := tV_bT hv' hb.c
    refine ok.bt rfl (ok.remM (by omega) fun n hn => ?_)
    have hvw := rwT_v hv n.toNat
    have hbw := tV_bT hvw hb.c
    refine ok.eq (rewI hN hb (by omega)) ?_
    rw [if_pos ⟨hv, by omega⟩]
    have hcan : canI (rwT t n.toNat) r := ⟨hvw, by show (rwL _ _ _ _).length ≠ 10; rw [rwL_len]; exact h.2.1, h.2.2⟩
    refine ok.eq (insI hN hbw hr) ?_
    rw [if_pos hcan]
    refine ok.bt rfl (ok.eq (rewI hN hb' (by omega)) ?_)
    rw [if_pos ⟨hv', by omega⟩]
    dsimp only
    rw [insT_rw]
    exact ok.eq (eqTab hN (tV_bT (insT_v hcan) hb.c)) (ok.some rfl)
  · rw [if_neg h]
    exact ok.bf rfl (ok.eq (eqTab hN noT_b) (ok.some rfl))
omit hN in
theorem altT_bc {t : I_Table} {c : I_Change} (hb : bT t) (h : canA t c) (hc : c.column.default.text.size ≤ 5000000) : bCs (altT t c).changes := by
  refine ⟨by show (t.changes ++ [c]).length ≤ _; have := h.1.1.2.1; simp; omega, fun x hx => ?_⟩
  rcases List.mem_append.1 (show x ∈ t.changes ++ [c] from hx) with h | h
  · exact hb.c.2 x h
  · rw [List.mem_singleton.1 h]; exact hc
theorem lawFnAlterTable (l : List UInt8) (sl : Szd.szd l) : m_L_FnAlterTable N l = some true := by
  refine ok.val ?_
  unfold m_L_FnAlterTable
  refine ok.ite (fun _ => ok.some rfl) fun hl => ok.call (drawA hN l) ?_
  rintro ⟨t, c⟩ ⟨hb, hc⟩
  dsimp only at *
  have hbr : bT (if canA t c then (altT t c, true) else (noT, false)).1 := by
    by_cases h : canA t c
    · rw [if_pos h]; exact tV_bT (altT_v h) (altT_bc hb h hc)
    · rw [if_neg h]; exact noT_b
  refine ok.eq (altI hN hb hc) (ok.eq (altS hN hb hc) (ok.eq (eqTab hN hbr) (ok.bt rfl (ok.bt (beq_self_eq_true _) ?_))))
  by_cases h : canA t c
  · rw [if_pos h]
    have hv := h.1
    have hv' := altT_v h
    have hb' := tV_bT hv' (altT_bc hb h hc)
    have h8 := hv.1.2.1
    have h10 := hv.2.1
    have hlen := chs_len t.first t.changes
    have hl' := tR_len hv
    have hl2 : (tR (altT t c)).length = t.rows.length := tR_len hv'
    refine ok.bt rfl (ok.eq (chainI hN hb.f hb.c) ?_)
    rw [if_pos hv.1]
    refine ok.eq (rowsI hN hb) (ok.eq (rowsI hN hb') (ok.eq (loop_self (n := t.rows.length) (by omega) (fun i hi => ?_) ?_) ?_))
    · show m_L_FnAlterTable_b1 N (t, c) _ (tR t) (tR (altT t c)) (i : Int) = _
      unfold m_L_FnAlterTable_b1
      have hr := hv.2.2 i hi
      have hf := adv_fit hv hr
      have e : ixI (tR (altT t c)) (i : Int) = some (mv (adv t t.rows[i]) c) := by
        rw [tR_ix hv' (i := i) hi]
        show some (adv (altT t c) t.rows[i]) = _
        rw [altT_adv hr.2.1]
      have hl3 : (mv (adv t t.rows[i]) c).length ≤ 5000000 := by
        have := adv_len hv' (i := i) hi
        rw [← altT_adv hr.2.1]
        have e2 : (altT t c).rows[i] = t.rows[i] := rfl
        rw [e2] at this; omega
      refine ok.val (ok.ift (by omega) (ok.bt rfl (ok.iff (by omega) (ok.chk (by dsimp only; omega) (ok.eq (chs_ix (n := t.changes.length) (by dsimp only; omega) (Nat.le_refl _)) (ok.eq (tR_ix hv hi) (ok.eq (chrowI hN (fL_v hv) hf h.2.2 hc) (ok.bt rfl (ok.eq e (ok.eq (eqRow hN hl3) (ok.bt rfl (ok.chk (by omega) (ok.some rfl)))))))))))))
    · show m_L_FnAlterTable_b1 N (t, c) _ (tR t) (tR (altT t c)) _ = _
      unfold m_L_FnAlterTable_b1
      rw [decide_eq_false (by omega)]; rfl
    · show ok (m_L_FnAlterTable_k1 N _ _) _
      unfold m_L_FnAlterTable_k1
      refine ok.eq (eqTag hN hb.rl hb.r) (ok.bt rfl (ok.eq (oldI hN hb') (ok.some (decide_eq_true ?_))))
      rw [oldN_v hv']
      show (t.rows.countP (oldB (altT t c)) : Int) = _
      rw [List.countP_eq_length.2]
      intro r hr
      obtain ⟨i, hi, rfl⟩ := List.mem_iff_getElem.1 hr
      have := (hv.2.2 i hi).2.1
      unfold oldB
      rw [decide_eq_true_eq]
      show _ ≠ ((t.changes ++ [c]).length : Int)
      simp; omega
  · rw [if_neg h]
    exact ok.bf rfl (ok.eq (eqTab hN noT_b) (ok.some rfl))
end
end V
end Go.Proofs.YthhlkedkeefgnaaDoor
