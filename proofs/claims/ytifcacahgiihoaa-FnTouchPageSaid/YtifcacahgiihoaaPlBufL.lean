/- The laws of the buffers answer true, as functions of plain data. No condition. -/
import Derived.Test.YtifcacahgiihoaaPlBufD
import Derived.Test.YtifcacahgiihoaaGBufL
import Derived.Test.YtifcacahgiihoaaGBufR
namespace Go.Proofs.Ytifcacahgiihoaa
namespace V
set_option linter.unusedVariables false
set_option linter.unusedSimpArgs false
theorem fnd_of {b : I_Buffer} {p : Int} {i : Nat} (hv : vB b) (hi : i < b.frames.length) (hp : b.frames[i].page = p) : fnd b.frames p = i := by
  refine (fnd_spec b.frames p).uniq (.inr ⟨i, hi, rfl, hp, fun k hk => ?_⟩)
  rw [← hp]; exact hv.2.2.2.2 i hi k hk
theorem fnd_none {fs : List I_Frame} {p : Int} (h : fnd fs p < 0) : ∀ i (h : i < fs.length), fs[i].page ≠ p := by
  rcases fnd_spec fs p with ⟨_, h2⟩ | ⟨i, hi, h1, _⟩
  · exact h2
  · omega
/-- What a touch does. -/
theorem touch_true {b : I_Buffer} {p l : Int} (h : (touchB b p l).2 = true) : vB b ∧ 0 ≤ p ∧ p ≤ 5 ∧ 1 ≤ l ∧ l ≤ 9999 ∧ (touchB b p l).1.forced = b.forced ∧ vB (touchB b p l).1 ∧
    ∃ (i : Nat) (f : Int), (touchB b p l).1.frames[i]? = some ⟨p, true, f, l⟩ ∧ 0 < f ∧ f ≤ l ∧
      ((i = b.frames.length ∧ f = l ∧ (touchB b p l).1.frames = b.frames ++ [⟨p, true, l, l⟩]) ∨ ∃ hi : i < b.frames.length, (touchB b p l).1.frames = b.frames.set i ⟨p, true, f, l⟩ ∧ b.frames[i].last < l ∧ f = if b.frames[i].dirty then b.frames[i].first else l) := by
  unfold touchB at h ⊢
  split at h
  case isFalse => cases h
  rename_i hc
  rw [if_pos hc]
  obtain ⟨hv, h1, h2, h3, h4⟩ := hc
  have hfr : ∀ j (hj : j < b.frames.length), frOk b.frames[j] := hv.2.2.2.1
  have hpg := hv.2.2.2.2
  refine ⟨hv, h1, h2, h3, h4, ?_⟩
  by_cases hf : fnd b.frames p < 0
  · rw [if_pos hf] at h ⊢
    have hno := fnd_none hf
    split at h
    · cases h
    · rename_i hlen
      rw [if_neg hlen]
      refine ⟨rfl, ⟨?_, hv.2.1, hv.2.2.1, ?_, ?_⟩, b.frames.length, l, ?_, by omega, Int.le_refl _, .inl ⟨rfl, rfl, rfl⟩⟩
      · have := hv.1; simp; omega
      · intro i hi
        simp only [List.length_append, List.length_cons, List.length_nil] at hi
        rw [List.getElem_append]
        split
        · exact hfr i ‹_›
        · simp; unfold frOk; simp; omega
      · intro i hi k hk
        simp only [List.length_append, List.length_cons, List.length_nil] at hi
        simp only [List.getElem_append]
        have hk' : k < b.frames.length := by omega
        simp only [hk', dite_true]
        split
        · exact hpg i ‹_› k hk
        · simpa using hno k hk'
      · simp
  · rw [if_neg hf] at h ⊢
    rcases fnd_spec b.frames p with ⟨h6, _⟩ | ⟨i, hi, h6, h7, h8⟩
    · omega
    rw [h6] at h ⊢
    simp only [Int.toNat_natCast, List.getElem?_eq_getElem hi] at h ⊢
    split at h
    · cases h
    · rename_i hl
      rw [if_neg hl]
      have ho := hfr i hi
      unfold frOk at ho
      have hff : 0 < (if b.frames[i].dirty = true then b.frames[i].first else l) ∧ (if b.frames[i].dirty = true then b.frames[i].first else l) ≤ l := by
        split
        · rename_i hd
          have := ho.2.2.2.2.2.2
          rw [hd] at this
          have := of_decide_eq_true this.symm
          omega
        · omega
      refine ⟨rfl, ⟨?_, hv.2.1, hv.2.2.1, ?_, ?_⟩, i, _, ?_, hff.1, hff.2, .inr ⟨hi, rfl, by omega, rfl⟩⟩
      · simpa using hv.1
      · intro j hj
        simp only [List.length_set] at hj
        rw [List.getElem_set]
        split
        · unfold frOk
          dsimp only
          exact ⟨h1, h2, by omega, h4, by omega, hff.2, (decide_eq_true hff.1).symm⟩
        · exact hfr j hj
      · intro j hj k hk
        simp only [List.length_set] at hj
        have key : ∀ (x : I_Frame), x.page = p → ∀ (q : Nat) (hq : q < (b.frames.set i x).length), (b.frames.set i x)[q].page = (b.frames[q]'(by simpa using hq)).page := by
          intro x hx q hq
          rw [List.getElem_set]; split
          · rename_i e; subst e; rw [hx, h7]
          · rfl
        rw [key _ rfl, key _ rfl]
        exact hpg j hj k hk
      · simp [hi]
theorem touch_cw {b : I_Buffer} {p l : Int} (h : (touchB b p l).2 = true) : cwP (touchB b p l).1 p ↔ l ≤ b.forced := by
  obtain ⟨_, _, _, _, _, h1, h2, i, f, h3, h4, h5, _⟩ := touch_true h
  obtain ⟨hi, h3⟩ := List.getElem?_eq_some_iff.1 h3
  have hf := fnd_of (p := p) h2 hi (by rw [h3])
  constructor
  · rintro ⟨_, j, hj, g1, g2, g3⟩
    obtain rfl : i = j := by omega
    rw [h3, h1] at g3; exact g3
  · intro g
    exact ⟨h2, i, hi, hf, by rw [h3], by rw [h3, h1]; exact g⟩
theorem touch_false {b : I_Buffer} {p l l' : Int} (h : (touchB b p l).2 = true) (hl : l' ≤ l) : (touchB (touchB b p l).1 p l').2 = false := by
  obtain ⟨_, _, _, _, _, h1, h2, i, f, h3, h4, h5, _⟩ := touch_true h
  obtain ⟨hi, h3'⟩ := List.getElem?_eq_some_iff.1 h3
  have hf := fnd_of (p := p) h2 hi (by rw [h3'])
  generalize touchB b p l = t at *
  unfold touchB
  split
  · rw [hf, if_neg (by omega)]
    simp only [Int.toNat_natCast, h3, if_pos hl]
  · rfl
theorem touch_next {b : I_Buffer} {p l : Int} (h : (touchB b p l).2 = true) : (touchB (touchB b p l).1 p (l + 1)).2 = true ∨ l = 9999 := by
  obtain ⟨_, g1, g2, g3, g4, h1, h2, i, f, h3, h4, h5, _⟩ := touch_true h
  obtain ⟨hi, h3'⟩ := List.getElem?_eq_some_iff.1 h3
  have hf := fnd_of (p := p) h2 hi (by rw [h3'])
  generalize touchB b p l = t at *
  by_cases hl : l = 9999
  · exact .inr hl
  left
  unfold touchB
  rw [if_pos ⟨h2, g1, g2, by omega, by omega⟩, hf, if_neg (by omega)]
  simp only [Int.toNat_natCast, h3, if_neg (show ¬ l + 1 ≤ l by omega)]
/-- What writing a page does. -/
theorem write_true {b : I_Buffer} {p : Int} (h : cwP b p) : (writeB b p).2 = true ∧ (writeB b p).1.forced = b.forced ∧ vB (writeB b p).1 ∧
    ∃ (i : Nat) (hi : i < b.frames.length), (writeB b p).1.frames = b.frames.set i ⟨p, false, 0, b.frames[i].last⟩ ∧ b.frames[i].page = p := by
  unfold writeB
  rw [if_pos h]
  obtain ⟨hv, i, hi, h1, h2, h3⟩ := h
  have hp : b.frames[i].page = p := by
    rcases fnd_spec b.frames p with ⟨h6, h7⟩ | ⟨j, hj, h6, h7, h8⟩
    · omega
    · obtain rfl : i = j := by omega
      exact h7
  have hfr : ∀ j (hj : j < b.frames.length), frOk b.frames[j] := hv.2.2.2.1
  have hpg := hv.2.2.2.2
  have ho := hfr i hi
  unfold frOk at ho
  simp only [h1, Int.toNat_natCast, List.getElem?_eq_getElem hi]
  refine ⟨trivial, trivial, ⟨by simpa using hv.1, hv.2.1, hv.2.2.1, ?_, ?_⟩, i, hi, rfl, hp⟩
  · intro j hj
    simp only [List.length_set] at hj
    rw [List.getElem_set]
    split
    · unfold frOk
      rw [hp] at ho
      exact ⟨ho.1, ho.2.1, ho.2.2.1, ho.2.2.2.1, Int.le_refl _, ho.2.2.1, rfl⟩
    · exact hfr j hj
  · intro j hj k hk
    simp only [List.length_set] at hj
    have key : ∀ (x : I_Frame), x.page = p → ∀ (q : Nat) (hq : q < (b.frames.set i x).length), (b.frames.set i x)[q].page = (b.frames[q]'(by simpa using hq)).page := by
      intro x hx q hq
      rw [List.getElem_set]; split
      · rename_i e; subst e; rw [hx, hp]
      · rfl
    rw [key _ rfl, key _ rfl]
    exact hpg j hj k hk
theorem write_cw {b : I_Buffer} {p : Int} (h : cwP b p) : ¬ cwP (writeB b p).1 p := by
  obtain ⟨_, _, h2, i, hi, h3, h4⟩ := write_true h
  rintro ⟨_, j, hj, g1, g2, g3⟩
  have hi' : i < (writeB b p).1.frames.length := by rw [h3]; simpa using hi
  have hf := fnd_of (p := p) h2 hi' (by simp [h3])
  obtain rfl : i = j := by omega
  simp [h3] at g2
/-- The first entry of the log that has to be repeated. -/
def RdS (fs : List I_Frame) (r : Int) : Prop := (r = 0 ∧ ∀ i (h : i < fs.length), fs[i].dirty = false) ∨ ((∃ i, ∃ h : i < fs.length, fs[i].dirty = true ∧ fs[i].first = r) ∧ ∀ i (h : i < fs.length), fs[i].dirty = true → r ≤ fs[i].first)
theorem RdS.uniq {fs : List I_Frame} {r r' : Int} (h : RdS fs r) (h' : RdS fs r') : r = r' := by
  rcases h with ⟨h1, h2⟩ | ⟨⟨i, hi, h1, h2⟩, h3⟩ <;> rcases h' with ⟨g1, g2⟩ | ⟨⟨j, hj, g1, g2⟩, g3⟩
  · omega
  · have := h2 j hj; grind
  · have := g2 i hi; grind
  · have := h3 j hj g1; have := g3 i hi h1; omega
section
variable {N : Nat} (hN : 100000000 ≤ N)
include hN
theorem redo_ok {b : I_Buffer} (hv : vB b) : ok (m_I_RedoStart N b) (RdS b.frames) := by
  unfold m_I_RedoStart
  have hlen := hv.1
  have hpos : ∀ i (h : i < b.frames.length), b.frames[i].dirty = true → 0 < b.frames[i].first := fun i h hd => by
    have := hv.2.2.2.1 i h; unfold frOk at this
    have := this.2.2.2.2.2.2; rw [hd] at this; exact of_decide_eq_true this.symm
  refine ok.eq (validI hN (by omega)) ?_
  refine ok.ift hv ?_
  refine ok.call (ok.loop (fun s : Int × Int => ∃ m : Nat, s.2 = m ∧ m ≤ b.frames.length ∧ RdS (b.frames.take m) s.1 ∧ (s.1 = 0 → ∀ i (h : i < b.frames.length), i < m → b.frames[i].dirty = false)) (fun s : Int × Int => ((b.frames.length : Int) - s.2).toNat) (RdS b.frames) ?_ N _ ⟨0, rfl, Nat.zero_le _, .inl ⟨rfl, fun i h => by simp at h⟩, fun _ i _ h => by omega⟩ (by dsimp only; omega)) (fun r h => ok.some h)
  rintro ⟨x, k⟩ ⟨m, hk, hm, hR, hz⟩
  dsimp only at hk hR hz ⊢
  subst hk
  unfold m_I_RedoStart_b1
  rcases Nat.lt_or_ge m b.frames.length with hlt | hge
  · have htl : ∀ i (h : i < (b.frames.take (m + 1)).length), i < m ∨ i = m := fun i h => by simp at h; omega
    have hold : ∀ i (h : i < m), ∃ h' : i < (b.frames.take m).length, (b.frames.take m)[i] = b.frames[i]'(by omega) := fun i h => ⟨by simp; omega, by simp⟩
    have hnew : ∀ y : Int, (RdS (b.frames.take (m + 1)) y) ↔ (y = 0 ∧ ∀ i (h : i < b.frames.length), i ≤ m → b.frames[i].dirty = false) ∨ ((∃ i, ∃ h : i < b.frames.length, i ≤ m ∧ b.frames[i].dirty = true ∧ b.frames[i].first = y) ∧ ∀ i (h : i < b.frames.length), i ≤ m → b.frames[i].dirty = true → y ≤ b.frames[i].first) := by
      intro y; unfold RdS; simp only [List.length_take, List.getElem_take]
      constructor
      · rintro (⟨h1, h2⟩ | ⟨⟨i, hi, h1, h2⟩, h3⟩)
        · exact .inl ⟨h1, fun i h h' => h2 i (by omega)⟩
        · exact .inr ⟨⟨i, by omega, by omega, h1, h2⟩, fun j h h' => h3 j (by omega)⟩
      · rintro (⟨h1, h2⟩ | ⟨⟨i, hi, h0, h1, h2⟩, h3⟩)
        · exact .inl ⟨h1, fun i h => h2 i (by omega) (by omega)⟩
        · exact .inr ⟨⟨i, by omega, h1, h2⟩, fun j h => h3 j (by omega) (by omega)⟩
    have hR' : (x = 0 ∧ ∀ i (h : i < b.frames.length), i < m → b.frames[i].dirty = false) ∨ ((∃ i, ∃ h : i < b.frames.length, i < m ∧ b.frames[i].dirty = true ∧ b.frames[i].first = x) ∧ ∀ i (h : i < b.frames.length), i < m → b.frames[i].dirty = true → x ≤ b.frames[i].first) := by
      unfold RdS at hR; simp only [List.length_take, List.getElem_take] at hR
      rcases hR with ⟨h1, h2⟩ | ⟨⟨i, hi, h1, h2⟩, h3⟩
      · exact .inl ⟨h1, fun i h h' => h2 i (by omega)⟩
      · exact .inr ⟨⟨i, by omega, by omega, h1, h2⟩, fun j h h' => h3 j (by omega)⟩
    clear hR
    have hp := hpos m hlt
    repeat' (first | (with_reducible refine ok.some ?_) | ((with_reducible refine ok.eq (ixI_nat hlt) ?_)) | (with_reducible refine ok.ite (fun hc => ?_) (fun hc => ?_)) | (with_reducible refine ok.cond (fun hc => ?_) (fun hc => ?_)) | (with_reducible refine ok.chk (by omega) ?_) | (with_reducible refine ok.bs ?_) | (with_reducible refine ok.remM (by omega) (fun _ hq => ?_)) | (with_reducible refine ok.quoM (by omega) (fun _ hq => ?_)) | (with_reducible refine ok.ix (by omega) (by omega) (fun q hq he => ?_)))
    all_goals first | omega | skip
    all_goals refine ⟨⟨m + 1, rfl, hlt, (hnew _).2 ?_, ?_⟩, by dsimp only; omega⟩
    all_goals dsimp only
    · refine .inr ⟨⟨m, hlt, Nat.le_refl _, ‹_›, rfl⟩, fun i h h' hd => ?_⟩
      rcases Nat.lt_or_eq_of_le h' with h4 | rfl
      · have := hz ‹_› i h h4; grind
      · exact Int.le_refl _
    · intro h0; have := hp ‹_›; omega
    · refine .inr ⟨⟨m, hlt, Nat.le_refl _, ‹_›, rfl⟩, fun i h h' hd => ?_⟩
      rcases Nat.lt_or_eq_of_le h' with h4 | rfl
      · rcases hR' with ⟨h5, h6⟩ | ⟨_, h6⟩
        · have := h6 i h h4; grind
        · have := h6 i h h4 hd; omega
      · exact Int.le_refl _
    · intro h0; have := hp ‹_›; omega
    · rcases hR' with ⟨h5, h6⟩ | ⟨⟨j, hj, h7, h8, h9⟩, h6⟩
      · omega
      · refine .inr ⟨⟨j, hj, by omega, h8, h9⟩, fun i h h' hd => ?_⟩
        rcases Nat.lt_or_eq_of_le h' with h4 | rfl
        · exact h6 i h h4 hd
        · omega
    · intro h0; omega
    · rcases hR' with ⟨h5, h6⟩ | ⟨⟨j, hj, h7, h8, h9⟩, h6⟩
      · refine .inl ⟨h5, fun i h h' => ?_⟩
        rcases Nat.lt_or_eq_of_le h' with h4 | rfl
        · exact h6 i h h4
        · assumption
      · refine .inr ⟨⟨j, hj, by omega, h8, h9⟩, fun i h h' hd => ?_⟩
        rcases Nat.lt_or_eq_of_le h' with h4 | rfl
        · exact h6 i h h4 hd
        · grind
    · intro h0 i h h'
      rcases Nat.lt_or_eq_of_le (Nat.le_of_lt_succ h') with h4 | rfl
      · exact hz h0 i h h4
      · assumption
  · obtain rfl : m = b.frames.length := by omega
    repeat' (first | (with_reducible refine ok.some ?_) | (with_reducible refine ok.iff (by omega) ?_) | (with_reducible refine ok.ite (fun hc => ?_) (fun hc => ?_)) | (with_reducible refine ok.cond (fun hc => ?_) (fun hc => ?_)) | (with_reducible refine ok.chk (by omega) ?_) | (with_reducible refine ok.bs ?_) | (with_reducible refine ok.remM (by omega) (fun _ hq => ?_)) | (with_reducible refine ok.quoM (by omega) (fun _ hq => ?_)) | (with_reducible refine ok.ix (by omega) (by omega) (fun q hq he => ?_)))
    simpa using hR
theorem forceLaw (a : List UInt8) (sa : Szd.szd a) : m_L_FnForceLog N a = some true := by
  refine ok.val ?_
  unfold m_L_FnForceLog
  refine ok.ite (fun _ => ok.some rfl) fun hc => ?_
  refine ok.call (drawForceLog_ok hN a) ?_
  rintro ⟨b, l⟩ ⟨hb, h1, h2⟩
  dsimp only at hb h1 h2 ⊢
  have hf := forceB_len (b := b) (l := l)
  refine ok.eq (forceI hN (by omega)) ?_
  refine ok.eq (forceS hN (by omega)) ?_
  refine ok.eq (equalBuffer_eq hN (by omega)) ?_
  refine ok.ift rfl ?_
  refine ok.eq (validI hN (by omega)) ?_
  refine ok.ite (fun hv => ?_) (fun hv => ?_)
  · refine ok.ite (fun _ => ok.eq (forceS hN (by omega)) (ok.eq (equalBuffer_eq hN (by omega)) (ok.some (decide_eq_true rfl)))) fun h3 => ?_
    refine ok.ite (fun _ => ok.eq (forceS hN (by omega)) (ok.eq (equalBuffer_eq hN (by omega)) (ok.some (decide_eq_true rfl)))) fun h4 => ?_
    have he : forceB b l = ⟨b.frames, max b.forced l⟩ := by unfold forceB; rw [if_pos ⟨hv, by omega, by omega⟩]
    have hv' : vB (forceB b l) := by
      rw [he]; exact ⟨hv.1, by have := hv.2.1; show 0 ≤ max b.forced l; omega, by have := hv.2.2.1; show max b.forced l ≤ 9999; omega, hv.2.2.2.1, hv.2.2.2.2⟩
    refine ok.call (P := fun o => o = .inl ()) (ok.mono (ok.loop (fun i : Int => 0 ≤ i ∧ i ≤ 6) (fun i => (6 - i).toNat) (fun o => o = Sum.inl ()) ?_ N 0 (by omega) (by omega)) fun r h => h) ?_
    · rintro i ⟨hi, hi'⟩
      show ok (m_L_FnForceLog_b1 N (b, l) (forceB b l) i) _
      unfold m_L_FnForceLog_b1
      repeat' (first | (with_reducible refine ok.some ?_) | ((with_reducible refine ok.eq (canWriteI hN (by (try dsimp only); omega)) ?_)) | (with_reducible refine ok.ite (fun hc => ?_) (fun hc => ?_)) | (with_reducible refine ok.cond (fun hc => ?_) (fun hc => ?_)) | (with_reducible refine ok.chk (by omega) ?_) | (with_reducible refine ok.bs ?_) | (with_reducible refine ok.remM (by omega) (fun _ hq => ?_)) | (with_reducible refine ok.quoM (by omega) (fun _ hq => ?_)) | (with_reducible refine ok.ix (by omega) (by omega) (fun q hq he => ?_)))
      · exact ⟨by omega, by omega⟩
      · rename_i h5 h6; dsimp only at h6
        obtain ⟨_, j, hj, g1, g2, g3⟩ := h6
        refine absurd ?_ ‹¬ _›
        refine ⟨hv', j, by rw [he]; exact hj, by rw [he]; exact g1, by simp only [he]; exact g2, by simp only [he]; omega⟩
      · exact ⟨by omega, by omega⟩
      · rfl
    · rintro _ rfl
      show ok (m_L_FnForceLog_k1 N (b, l) (forceB b l)) _
      unfold m_L_FnForceLog_k1
      refine ok.eq (forceI hN (by omega)) ?_
      have hff : forceB (forceB b l) l = forceB b l := by
        have hu : ∀ c, vB c → forceB c l = ⟨c.frames, max c.forced l⟩ := fun c hc => by unfold forceB; rw [if_pos ⟨hc, by omega, by omega⟩]
        rw [hu _ hv', he]
        show (⟨b.frames, max (max b.forced l) l⟩ : I_Buffer) = ⟨b.frames, max b.forced l⟩
        rw [show max (max b.forced l) l = max b.forced l by omega]
      dsimp only
      rw [hff]
      refine ok.eq (equalBuffer_eq hN (by omega)) ?_
      refine ok.ift rfl ?_
      rw [he]
      refine ok.ift (by dsimp only; omega) ?_
      refine ok.some (decide_eq_true ?_)
      dsimp only; omega
  · refine ok.eq (forceS hN (by omega)) (ok.eq (equalBuffer_eq hN (by omega)) (ok.some (decide_eq_true rfl)))
theorem touchOrderLaw (a : List UInt8) (sa : Szd.szd a) : m_L_FnTouchPageOrder N a = some true := by
  refine ok.val ?_
  unfold m_L_FnTouchPageOrder
  refine ok.ite (fun _ => ok.some rfl) fun hc => ?_
  refine ok.call (drawTouchPage_ok hN a) ?_
  rintro ⟨b, p, l⟩ ⟨hb, h1, h2⟩
  dsimp only at hb h1 h2 ⊢
  have hf := touchB_len (b := b) (p := p) (l := l)
  refine ok.eq (touchI hN (by omega)) ?_
  refine ok.eq (touchS hN (by omega)) ?_
  refine ok.eq (equalBuffer_eq hN (by omega)) ?_
  refine ok.ift rfl ?_
  refine ok.bt (beq_self_eq_true _) ?_
  refine ok.cond (fun ht => ?_) (fun ht => ?_)
  · refine ok.eq (touchI hN (by omega)) ?_
    refine ok.chk (by omega) ?_
    refine ok.eq (touchI hN (by omega)) ?_
    refine ok.chk (by omega) ?_
    refine ok.eq (touchI hN (by omega)) ?_
    refine ok.bf (touch_false ht (Int.le_refl _)) ?_
    refine ok.bf (touch_false ht (by omega)) ?_
    rcases touch_next ht with h | h
    · exact ok.bt h (ok.some rfl)
    · exact ok.cond (fun _ => ok.some rfl) (fun _ => ok.some (decide_eq_true h))
  · refine ok.eq (equalBuffer_eq hN (by omega)) ?_
    refine ok.ift rfl ?_
    exact ok.some (beq_self_eq_true _)
theorem touchLaw (a : List UInt8) (sa : Szd.szd a) : m_L_FnTouchPage N a = some true := by
  refine ok.val ?_
  unfold m_L_FnTouchPage
  refine ok.ite (fun _ => ok.some rfl) fun hc => ?_
  refine ok.call (drawTouchPage_ok hN a) ?_
  rintro ⟨b, p, l⟩ ⟨hb, h1, h2⟩
  dsimp only at hb h1 h2 ⊢
  have hf := touchB_len (b := b) (p := p) (l := l)
  refine ok.eq (touchI hN (by omega)) ?_
  refine ok.eq (touchS hN (by omega)) ?_
  refine ok.eq (equalBuffer_eq hN (by omega)) ?_
  refine ok.ift rfl ?_
  refine ok.bt (beq_self_eq_true _) ?_
  refine ok.cond (fun ht => ?_) (fun ht => ?_)
  · obtain ⟨g0, g1, g2, g3, g4, g5, g6, i, f, g7, g8, g9, _⟩ := touch_true ht
    refine ok.eq (validI hN (by omega)) ?_
    refine ok.ift g6 ?_
    refine ok.eq (canWriteI hN (by omega)) ?_
    have hcw := touch_cw ht
    refine ok.bt (by by_cases h : l ≤ b.forced <;> simp [hcw, h]) ?_
    refine ok.eq (forceI hN (by omega)) ?_
    have he : forceB (touchB b p l).1 l = ⟨(touchB b p l).1.frames, max (touchB b p l).1.forced l⟩ := by unfold forceB; rw [if_pos ⟨g6, by omega, g4⟩]
    rw [he]
    refine ok.eq (canWriteI hN (by dsimp only; omega)) ?_
    refine ok.some (decide_eq_true ?_)
    obtain ⟨hi, g7'⟩ := List.getElem?_eq_some_iff.1 g7
    have hff := fnd_of (p := p) g6 hi (by rw [g7'])
    refine ⟨⟨g6.1, ?_, ?_, g6.2.2.2.1, g6.2.2.2.2⟩, i, hi, hff, by dsimp only; rw [g7'], by dsimp only; rw [g7']; dsimp only; omega⟩
    · have := g6.2.1; dsimp only; omega
    · have := g6.2.2.1; dsimp only; omega
  · refine ok.eq (equalBuffer_eq hN (by omega)) ?_
    refine ok.ift rfl ?_
    exact ok.some (beq_self_eq_true _)
theorem touchStartLaw (a : List UInt8) (sa : Szd.szd a) : m_L_FnTouchPageStart N a = some true := by
  refine ok.val ?_
  unfold m_L_FnTouchPageStart
  refine ok.ite (fun _ => ok.some rfl) fun hc => ?_
  refine ok.call (drawTouchPage_ok hN a) ?_
  rintro ⟨b, p, l⟩ ⟨hb, h1, h2⟩
  dsimp only at hb h1 h2 ⊢
  have hf := touchB_len (b := b) (p := p) (l := l)
  refine ok.eq (touchI hN (by omega)) ?_
  refine ok.eq (touchS hN (by omega)) ?_
  refine ok.eq (equalBuffer_eq hN (by omega)) ?_
  refine ok.ift rfl ?_
  refine ok.bt (beq_self_eq_true _) ?_
  refine ok.cond (fun ht => ?_) (fun ht => ?_)
  · obtain ⟨g0, g1, g2, g3, g4, g5, g6, i, f, g7, g8, g9, g10⟩ := touch_true ht
    refine ok.call (redo_ok hN g0) fun s hs => ?_
    refine ok.call (redo_ok hN g6) fun s' hs' => ?_
    have hpos : ∀ i (h : i < b.frames.length), b.frames[i].dirty = true → 0 < b.frames[i].first ∧ b.frames[i].first ≤ b.frames[i].last := fun i h hd => by
      have := g0.2.2.2.1 i h; unfold frOk at this
      obtain ⟨_, _, _, _, _, q, this⟩ := this; rw [hd] at this; exact ⟨of_decide_eq_true this.symm, q⟩
    have key : (s = 0 → s' = l) ∧ (s ≠ 0 → 0 < s ∧ s' = min s l) := by
      have hval : RdS (touchB b p l).1.frames (if s = 0 then l else min s l) ∧ (s ≠ 0 → 0 < s) := by
        have hold : (s = 0 ∧ ∀ i (h : i < b.frames.length), b.frames[i].dirty = false) ∨ 0 < s := by
          rcases hs with h | ⟨⟨j, hj, h3, h4⟩, _⟩
          · exact .inl h
          · right; rw [← h4]; exact (hpos j hj h3).1
        refine ⟨?_, fun h => by rcases hold with h' | h' <;> omega⟩
        rcases g10 with ⟨e1, e2, e3⟩ | ⟨hi, e3, e4, e5⟩
        · rw [e3]
          right
          have hnew : ∃ j, ∃ h : j < (b.frames ++ [(⟨p, true, l, l⟩ : I_Frame)]).length, (b.frames ++ [(⟨p, true, l, l⟩ : I_Frame)])[j].dirty = true ∧ (b.frames ++ [(⟨p, true, l, l⟩ : I_Frame)])[j].first = l := ⟨b.frames.length, by simp, by simp, by simp⟩
          rcases hs with ⟨h5, h6⟩ | ⟨⟨j, hj, h3, h4⟩, h6⟩
          · rw [if_pos h5]
            refine ⟨hnew, fun k hk hd => ?_⟩
            rw [List.getElem_append] at hd ⊢
            split at hd
            · rename_i hk'; rw [h6 k hk'] at hd; cases hd
            · rename_i hk'; rw [dif_neg hk']; simp
          · have := hpos j hj h3
            rw [if_neg (by omega)]
            refine ⟨?_, fun k hk hd => ?_⟩
            · by_cases hsl : s ≤ l
              · exact ⟨j, by simp; omega, by rw [List.getElem_append_left hj]; exact h3, by rw [List.getElem_append_left hj]; omega⟩
              · obtain ⟨k, hk, h7, h8⟩ := hnew; exact ⟨k, hk, h7, by omega⟩
            · rw [List.getElem_append] at hd ⊢
              split at hd
              · rename_i hk'; rw [dif_pos hk']; have := h6 k hk' hd; omega
              · rename_i hk'; rw [dif_neg hk']; simp; omega
        · rw [e3]
          right
          have hset : ∀ k (hk : k < (b.frames.set i (⟨p, true, f, l⟩ : I_Frame)).length), (b.frames.set i (⟨p, true, f, l⟩ : I_Frame))[k] = if i = k then ⟨p, true, f, l⟩ else b.frames[k]'(by simpa using hk) := fun k hk => List.getElem_set _
          have hnew : ∃ j, ∃ h : j < (b.frames.set i (⟨p, true, f, l⟩ : I_Frame)).length, (b.frames.set i (⟨p, true, f, l⟩ : I_Frame))[j].dirty = true ∧ (b.frames.set i (⟨p, true, f, l⟩ : I_Frame))[j].first = f := ⟨i, by simpa using hi, by simp, by simp⟩
          rcases hs with ⟨h5, h6⟩ | ⟨⟨j, hj, h3, h4⟩, h6⟩
          · rw [if_pos h5]
            have e6 : f = l := by rw [e5, h6 i hi]; rfl
            refine ⟨by rw [e6] at hnew ⊢; exact hnew, fun k hk hd => ?_⟩
            rw [hset] at hd ⊢
            split at hd
            · rename_i hk'; rw [if_pos hk']; show l ≤ f; omega
            · rename_i hk'; rw [h6 k (by simpa using hk)] at hd; cases hd
          · have hp := hpos j hj h3
            rw [if_neg (by omega)]
            by_cases hd0 : b.frames[i].dirty = true
            · have e6 : f = b.frames[i].first := by rw [e5, if_pos hd0]
              have hp2 := hpos i hi hd0
              have h7 := h6 i hi hd0
              refine ⟨?_, fun k hk hd => ?_⟩
              · by_cases hij : i = j
                · subst hij; obtain ⟨k, hk, h8, h9⟩ := hnew; exact ⟨k, hk, h8, by omega⟩
                · exact ⟨j, by simpa using hj, by rw [hset, if_neg hij]; exact h3, by rw [hset, if_neg hij]; omega⟩
              · rw [hset] at hd ⊢
                split at hd
                · rename_i hk'; rw [if_pos hk']; show min s l ≤ f; omega
                · rename_i hk'; rw [if_neg hk']; have := h6 k (by simpa using hk) hd; omega
            · have e6 : f = l := by rw [e5, if_neg hd0]
              have hij : i ≠ j := fun h => by subst h; exact hd0 h3
              refine ⟨?_, fun k hk hd => ?_⟩
              · by_cases hsl : s ≤ l
                · exact ⟨j, by simpa using hj, by rw [hset, if_neg hij]; exact h3, by rw [hset, if_neg hij]; omega⟩
                · obtain ⟨k, hk, h8, h9⟩ := hnew; exact ⟨k, hk, h8, by omega⟩
              · rw [hset] at hd ⊢
                split at hd
                · rename_i hk'; rw [if_pos hk']; show min s l ≤ f; omega
                · rename_i hk'; rw [if_neg hk']; have := h6 k (by simpa using hk) hd; omega
      have := hs'.uniq hval.1
      refine ⟨fun h => by rw [this, if_pos h], fun h => ⟨hval.2 h, by rw [this, if_neg h]⟩⟩
    refine ok.ite (fun h => ok.ift (key.1 h) (ok.some rfl)) (fun h => ok.ift (key.2 h).1 (ok.some (decide_eq_true (key.2 h).2)))
  · refine ok.eq (equalBuffer_eq hN (by omega)) ?_
    refine ok.ift rfl ?_
    exact ok.some (beq_self_eq_true _)
theorem writeLaw (a : List UInt8) (sa : Szd.szd a) : m_L_FnWritePage N a = some true := by
  refine ok.val ?_
  unfold m_L_FnWritePage
  refine ok.ite (fun _ => ok.some rfl) fun hc => ?_
  refine ok.call (drawWritePage_ok hN a) ?_
  rintro ⟨b, p⟩ hb
  dsimp only at hb ⊢
  have hf := writeB_len (b := b) (p := p)
  refine ok.eq (writeI hN (by omega)) ?_
  refine ok.eq (writeS hN (by omega)) ?_
  refine ok.eq (equalBuffer_eq hN (by omega)) ?_
  refine ok.ift rfl ?_
  refine ok.bt (beq_self_eq_true _) ?_
  refine ok.eq (canWriteI hN (by omega)) ?_
  have hw : (writeB b p).2 = decide (cwP b p) := by
    by_cases h : cwP b p
    · rw [(write_true h).1, decide_eq_true h]
    · unfold writeB; rw [if_neg h, decide_eq_false h]
  refine ok.bt (by rw [hw]; exact beq_self_eq_true _) ?_
  refine ok.cond (fun ht => ?_) (fun ht => ?_)
  · have h : cwP b p := of_decide_eq_true (by rw [← hw]; exact ht)
    obtain ⟨g1, g2, g3, i, hi, g4, g5⟩ := write_true h
    have g0 := h.1
    refine ok.call (redo_ok hN g3) fun s' hs' => ?_
    refine ok.eq (validI hN (by omega)) ?_
    refine ok.ift g3 ?_
    refine ok.eq (canWriteI hN (by omega)) ?_
    refine ok.iff (write_cw h) ?_
    refine ok.ite (fun _ => ok.some rfl) fun h0 => ?_
    refine ok.call (redo_ok hN g0) fun s hs => ?_
    refine ok.some (decide_eq_true ?_)
    rw [g4] at hs'
    rcases hs' with ⟨h1, _⟩ | ⟨⟨j, hj, h1, h2⟩, _⟩
    · exact (h0 h1).elim
    · rw [List.getElem_set] at h1 h2
      split at h1
      · cases h1
      · rename_i hij
        rw [if_neg hij] at h2
        rcases hs with ⟨_, h3⟩ | ⟨_, h3⟩
        · rw [h3 j (by simpa using hj)] at h1; cases h1
        · have := h3 j (by simpa using hj) h1; omega
  · refine ok.eq (equalBuffer_eq hN (by omega)) ?_
    refine ok.ift rfl ?_
    refine ok.eq (canWriteI hN (by omega)) ?_
    exact ok.some (by rw [hw]; exact beq_self_eq_true _)
end
end V
end Go.Proofs.Ytifcacahgiihoaa
