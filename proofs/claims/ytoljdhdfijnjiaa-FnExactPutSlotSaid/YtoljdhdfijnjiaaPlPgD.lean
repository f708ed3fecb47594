/- Drawn pages: there always is one, and it is small. No condition. -/
import Derived.Test.YtoljdhdfijnjiaaPlPgB
import Derived.Test.YtoljdhdfijnjiaaPlRd
import Derived.Test.YtoljdhdfijnjiaaPgEa
namespace Go.Proofs.Ytoljdhdfijnjiaa
namespace V
set_option linter.unusedVariables false
set_option linter.unusedSimpArgs false
set_option maxHeartbeats 1000000
theorem put_cases (p : I_Page) (d : ByteArray) : putP p d = (⟨[]⟩, -1, false) ∨ (vP p ∧ vP ⟨withS p.slots (freeAt p.slots) ⟨true, d⟩⟩ ∧ putP p d = (⟨withS p.slots (freeAt p.slots) ⟨true, d⟩⟩, (freeAt p.slots : Int), true)) := by
  unfold putP
  split
  · split
    · exact .inr ⟨‹_›, ‹_›, rfl⟩
    · exact .inl rfl
  · exact .inl rfl
theorem set_cases (p : I_Page) (k : Int) (d : ByteArray) : setP p k d = (⟨[]⟩, false) ∨ (lvP p k ∧ vP ⟨p.slots.set k.toNat ⟨true, d⟩⟩ ∧ setP p k d = (⟨p.slots.set k.toNat ⟨true, d⟩⟩, true)) := by
  unfold setP
  split
  · split
    · exact .inr ⟨‹_›, ‹_›, rfl⟩
    · exact .inl rfl
  · exact .inl rfl
theorem clear_cases (p : I_Page) (k : Int) : clearP p k = (⟨[]⟩, false) ∨ (lvP p k ∧ clearP p k = (⟨trimP (p.slots.set k.toNat noSlot)⟩, true)) := by
  unfold clearP
  split
  · exact .inr ⟨‹_›, rfl⟩
  · exact .inl rfl
/-- Few slots with few bytes. -/
structure Sm (n : Nat) (l : List I_Slot) : Prop where
  len : l.length ≤ n
  dat : ∀ s ∈ l, s.data.size ≤ 100
theorem Sm.nil {n : Nat} : Sm n [] := ⟨Nat.zero_le _, fun s h => by cases h⟩
theorem Sm.pb {n : Nat} {l : List I_Slot} (h : Sm n l) (hn : n ≤ 1000000) : PB l := ⟨by have := h.len; omega, fun s hs => by have := h.dat s hs; omega⟩
theorem usedP_mem {l : List I_Slot} {s : I_Slot} (h : s ∈ l) : (s.data.size : Int) ≤ usedP l := by
  induction l with
  | nil => cases h
  | cons x l ih =>
    have := usedP_nonneg l
    rcases List.mem_cons.1 h with rfl | h
    · simp [usedP]; omega
    · have := ih h; simp [usedP]; omega
theorem vP.sm {p : I_Page} (h : vP p) : Sm 8 p.slots := ⟨h.1, fun s hs => by have := usedP_mem hs; have := h.2.2.2; omega⟩
theorem Sm.take {n : Nat} {l : List I_Slot} (h : Sm n l) (i : Nat) : Sm n (l.take i) := ⟨by have := h.len; simp; omega, fun s hs => h.dat s (List.mem_of_mem_take hs)⟩
theorem Sm.set {n : Nat} {l : List I_Slot} (h : Sm n l) (i : Nat) {x : I_Slot} (hx : x.data.size ≤ 100) : Sm n (l.set i x) := ⟨by simpa using h.len, fun s hs => by
  rcases List.mem_or_eq_of_mem_set hs with h1 | h1
  · exact h.dat s h1
  · subst h1; exact hx⟩
theorem put_sm (p : I_Page) (d : ByteArray) : Sm 8 (putP p d).1.slots := by
  rcases put_cases p d with h | ⟨_, h1, h2⟩
  · rw [h]; exact .nil
  · rw [h2]; exact h1.sm
theorem set_sm (p : I_Page) (k : Int) (d : ByteArray) : Sm 8 (setP p k d).1.slots := by
  rcases set_cases p k d with h | ⟨_, h1, h2⟩
  · rw [h]; exact .nil
  · rw [h2]; exact h1.sm
theorem clear_sm (p : I_Page) (k : Int) : Sm 8 (clearP p k).1.slots := by
  rcases clear_cases p k with h | ⟨h1, h2⟩
  · rw [h]; exact .nil
  · rw [h2]; exact (h1.1.sm.set _ (by decide)).take _
section
variable {N : Nat} (hN : 100000000 ≤ N)
include hN
omit hN in
theorem someData_ok (N : Nat) {r : S_reader} (h : r.b.length ≤ 2000) (h0 : 0 ≤ r.p ∧ r.p ≤ 1000000) : ok (m_S_someData N r) fun x => x.1.size ≤ 64 ∧ x.2 = ⟨r.b, r.p + 1⟩ := by
  unfold m_S_someData
  refine ok.call (of_ok N (by omega) (by omega) (by simp) (by simp)) ?_
  rintro ⟨v, rd⟩ ⟨h1, h2⟩
  refine ok.some ⟨?_, h1⟩
  have hall : ∀ y ∈ [ByteArray.empty, (ByteArray.mk #[97]), (ByteArray.mk #[114, 101, 99, 111, 114, 100]), (ByteArray.mk #[97, 32, 108, 111, 110, 103, 101, 114, 32, 114, 101, 99, 111, 114, 100]), (ByteArray.mk #[115, 111, 109, 101, 32, 114, 101, 99, 111, 114, 100, 32, 116, 104, 97, 116, 32, 105, 115, 32, 108, 111, 110, 103, 101, 114, 32, 116, 104, 97, 110, 32, 109, 111, 115, 116, 32, 111, 102, 32, 116, 104, 101, 32, 111, 116, 104, 101, 114, 115]), (ByteArray.mk #[48, 49, 50, 51, 52, 53, 54, 55, 56, 57, 48, 49, 50, 51, 52, 53, 54, 55, 56, 57, 48, 49, 50, 51, 52, 53, 54, 55, 56, 57, 48, 49, 50, 51, 52, 53, 54, 55, 56, 57]), (ByteArray.mk #[120, 121])], y.size ≤ 64 := by
    intro y hy
    simp only [List.mem_cons, List.not_mem_nil, or_false] at hy
    rcases hy with rfl | rfl | rfl | rfl | rfl | rfl | rfl <;> decide
  exact hall _ h2
theorem randomPage_ok {r : S_reader} (h : r.b.length ≤ 2000) (h0 : 0 ≤ r.p ∧ r.p ≤ 100000) : ok (m_S_randomPage N r) fun x => Sm 8 x.1.slots ∧ x.2.b = r.b ∧ 0 ≤ x.2.p ∧ x.2.p ≤ r.p + 20 := by
  unfold m_S_randomPage
  refine ok.call (one_ok N (by omega) (by omega) (by decide) (by decide)) ?_
  rintro ⟨n0, r1⟩ ⟨hr1, hn0⟩
  dsimp only at hr1 hn0 ⊢; subst hr1
  have hn : 0 ≤ n0 ∧ n0 ≤ 8 := by simp at hn0; omega
  refine ok.call (ok.loop (fun s => 0 ≤ s.1 ∧ s.1 ≤ 8 ∧ s.2.1 = r.b ∧ 0 ≤ s.2.2.1 ∧ s.2.2.1 ≤ r.p + 1 + (8 - s.1) ∧ Sm 8 s.2.2.2) (fun s => s.1.toNat) (fun e => e.1 = r.b ∧ 0 ≤ e.2.1 ∧ e.2.1 ≤ r.p + 9 ∧ Sm 8 e.2.2) ?_ N _ ?_ ?_) ?_
  · rintro ⟨n, rb, p, sl⟩ ⟨h1, h2, h3, h4, h5, h6⟩
    dsimp only at h1 h2 h3 h4 h5 h6 ⊢
    subst h3
    unfold m_S_randomPage_b1
    repeat' (first | (with_reducible refine ok.some ?_) | ((with_reducible refine ok.call (someData_ok N (by (try dsimp only); omega) (by (try dsimp only); omega)) ?_; rintro ⟨v, rd⟩ ⟨hv, hrd⟩; (try dsimp only at hrd hv); subst hrd; (try dsimp only))) | ((with_reducible refine ok.eq (putS hN (h6.pb (by omega)) (by omega)) ?_)) | (with_reducible refine ok.ite (fun hc => ?_) (fun hc => ?_)) | (with_reducible refine ok.cond (fun hc => ?_) (fun hc => ?_)) | (with_reducible refine ok.chk (by omega) ?_) | (with_reducible refine ok.bs ?_) | (with_reducible refine ok.remM (by omega) (fun _ hq => ?_)) | (with_reducible refine ok.quoM (by omega) (fun _ hq => ?_)) | (with_reducible refine ok.ix (by omega) (by omega) (fun q hq he => ?_)))
    all_goals try dsimp only
    all_goals first
      | (refine ⟨⟨?_, ?_, rfl, ?_, ?_, ?_⟩, ?_⟩ <;> first | omega | exact h6 | exact put_sm _ _)
      | (refine ⟨rfl, ?_, ?_, h6⟩ <;> omega)
  · dsimp only; refine ⟨?_, ?_, rfl, ?_, ?_, .nil⟩ <;> omega
  · dsimp only; omega
  rintro ⟨rb, p, sl⟩ ⟨h1, h2, h3, h4⟩
  dsimp only at h1 h2 h3 h4 ⊢
  subst h1
  unfold m_S_randomPage_k1
  refine ok.call (pick_ok N (by (try dsimp only); omega) (by (try dsimp only); omega) (by omega)) ?_
  rintro ⟨n1, rd⟩ ⟨hrd, hv1, hv2⟩
  dsimp only at hrd hv1 hv2 ⊢; subst hrd
  refine ok.call (ok.loop (fun s => 0 ≤ s.1 ∧ s.1 ≤ 3 ∧ s.2.1 = r.b ∧ 0 ≤ s.2.2.1 ∧ s.2.2.1 ≤ r.p + 10 + (3 - s.1) ∧ Sm 8 s.2.2.2) (fun s => s.1.toNat) (fun e => e.1 = r.b ∧ 0 ≤ e.2.1 ∧ e.2.1 ≤ r.p + 20 ∧ Sm 8 e.2.2) ?_ N _ ?_ ?_) ?_
  · rintro ⟨n, rb, p, sl⟩ ⟨h1, h2, h3, h4, h5, h6⟩
    dsimp only at h1 h2 h3 h4 h5 h6 ⊢
    subst h3
    have h7 := h6.len
    unfold m_S_randomPage_b2
    repeat' (first | (with_reducible refine ok.some ?_) | ((with_reducible refine ok.call (pick_ok N (by (try dsimp only); omega) (by (try dsimp only); omega) (by omega)) ?_; rintro ⟨v, rd⟩ ⟨hrd, hv1, hv2⟩; (try dsimp only at hrd hv1 hv2); subst hrd; (try dsimp only))) | ((with_reducible refine ok.eq (clearS hN (h6.pb (by omega))) ?_)) | (with_reducible refine ok.ite (fun hc => ?_) (fun hc => ?_)) | (with_reducible refine ok.cond (fun hc => ?_) (fun hc => ?_)) | (with_reducible refine ok.chk (by omega) ?_) | (with_reducible refine ok.bs ?_) | (with_reducible refine ok.remM (by omega) (fun _ hq => ?_)) | (with_reducible refine ok.quoM (by omega) (fun _ hq => ?_)) | (with_reducible refine ok.ix (by omega) (by omega) (fun q hq he => ?_)))
    all_goals try dsimp only
    all_goals first
      | (refine ⟨⟨?_, ?_, rfl, ?_, ?_, ?_⟩, ?_⟩ <;> first | omega | exact h6 | exact clear_sm _ _)
      | (refine ⟨rfl, ?_, ?_, h6⟩ <;> omega)
  · dsimp only; refine ⟨?_, ?_, rfl, ?_, ?_, h4⟩ <;> omega
  · dsimp only; omega
  rintro ⟨rb, p, sl⟩ ⟨h1, h2, h3, h4⟩
  dsimp only at h1 h2 h3 h4 ⊢
  exact ok.some ⟨h4, h1, h2, h3⟩
theorem anyPage_ok {r : S_reader} (h : r.b.length ≤ 2000) (h0 : 0 ≤ r.p ∧ r.p ≤ 100000) : ok (m_S_anyPage N r) fun x => Sm 20 x.1.slots ∧ x.2.b = r.b ∧ 0 ≤ x.2.p ∧ x.2.p ≤ r.p + 21 := by
  unfold m_S_anyPage
  refine ok.call (randomPage_ok hN h h0) ?_
  rintro ⟨⟨sl⟩, ⟨rb, p⟩⟩ ⟨h1, h2, h3, h4⟩
  dsimp only at h1 h2 h3 h4 ⊢
  subst h2
  have h5 := h1.len
  refine ok.call (pick_ok N (by (try dsimp only); omega) (by (try dsimp only); omega) (by omega)) ?_
  rintro ⟨n1, rd⟩ ⟨hrd, hv1, hv2⟩
  dsimp only at hrd hv1 hv2 ⊢; subst hrd
  have hsm : ∀ x : I_Slot, x.data.size ≤ 100 → Sm 20 (sl ++ [x]) := fun x hx => ⟨by simp; omega, fun s hs => by
    rcases List.mem_append.1 hs with h | h
    · exact h1.dat s h
    · simp at h; subst h; exact hx⟩
  repeat' (first | (with_reducible refine ok.some ?_) | ((with_reducible refine ok.app ⟨by simp; omega, by simp; omega⟩ ?_)) | (fail) | (with_reducible refine ok.ite (fun hc => ?_) (fun hc => ?_)) | (with_reducible refine ok.cond (fun hc => ?_) (fun hc => ?_)) | (with_reducible refine ok.chk (by omega) ?_) | (with_reducible refine ok.bs ?_) | (with_reducible refine ok.remM (by omega) (fun _ hq => ?_)) | (with_reducible refine ok.quoM (by omega) (fun _ hq => ?_)) | (with_reducible refine ok.ix (by omega) (by omega) (fun q hq he => ?_)))
  · exact ⟨hsm _ (by decide), rfl, by dsimp only; omega, by dsimp only; omega⟩
  · refine ⟨⟨by simp; omega, fun s hs => ?_⟩, rfl, by dsimp only; omega, by dsimp only; omega⟩
    rcases List.mem_append.1 hs with h | h
    · simp at h; subst h; decide
    · exact h1.dat s h
  · refine ok.call (ok.each 9 (fun i s => s.1 = (i : Int) ∧ s.2.length ≤ 8 + i ∧ ∀ x ∈ s.2, x.data.size ≤ 100) (fun e => Sm 20 e) ?_ ?_ N 0 _ (Nat.zero_le _) ⟨rfl, by dsimp only; omega, h1.dat⟩ (by omega)) ?_
    · rintro i ⟨j, v⟩ hi ⟨rfl, h6, h7⟩
      dsimp only at h6 h7 ⊢
      unfold m_S_anyPage_b1
      repeat' (first | (with_reducible refine ok.some ?_) | ((with_reducible refine ok.app ⟨by simp; omega, by simp; omega⟩ ?_)) | (with_reducible refine ok.ite (fun hc => ?_) (fun hc => ?_)) | (with_reducible refine ok.cond (fun hc => ?_) (fun hc => ?_)) | (with_reducible refine ok.chk (by omega) ?_) | (with_reducible refine ok.bs ?_) | (with_reducible refine ok.remM (by omega) (fun _ hq => ?_)) | (with_reducible refine ok.quoM (by omega) (fun _ hq => ?_)) | (with_reducible refine ok.ix (by omega) (by omega) (fun q hq he => ?_)))
      · refine ⟨by simp, by simp; omega, fun x hx => ?_⟩
        rcases List.mem_append.1 hx with h | h
        · exact h7 x h
        · simp at h; subst h; decide
      · omega
    · rintro ⟨j, v⟩ ⟨rfl, h6, h7⟩
      dsimp only at h6 h7 ⊢
      unfold m_S_anyPage_b1
      repeat' (first | (with_reducible refine ok.some ?_) | (with_reducible refine ok.iff (by omega) ?_) | (with_reducible refine ok.ite (fun hc => ?_) (fun hc => ?_)) | (with_reducible refine ok.cond (fun hc => ?_) (fun hc => ?_)) | (with_reducible refine ok.chk (by omega) ?_) | (with_reducible refine ok.bs ?_) | (with_reducible refine ok.remM (by omega) (fun _ hq => ?_)) | (with_reducible refine ok.quoM (by omega) (fun _ hq => ?_)) | (with_reducible refine ok.ix (by omega) (by omega) (fun q hq he => ?_)))
      exact ⟨by omega, h7⟩
    · intro e he
      exact ok.some ⟨he, rfl, by dsimp only; omega, by dsimp only; omega⟩
  · exact ⟨⟨by dsimp only; omega, h1.dat⟩, rfl, by dsimp only; omega, by dsimp only; omega⟩
theorem drawPageFree_ok (l : List UInt8) : ok (m_S_DrawPageFree N l) fun x => Sm 20 x.slots := by
  unfold m_S_DrawPageFree
  refine ok.call (newReader_ok N l) fun r hr => ?_
  refine ok.call (anyPage_ok hN hr.1 (by omega)) ?_
  rintro ⟨b, rd⟩ ⟨hb, h1, h2, h3⟩
  exact ok.some hb
theorem drawPutSlot_ok (l : List UInt8) : ok (m_S_DrawPutSlot N l) fun x => Sm 20 x.1.slots ∧ x.2.size ≤ 64 := by
  unfold m_S_DrawPutSlot
  refine ok.call (newReader_ok N l) fun r hr => ?_
  refine ok.call (anyPage_ok hN hr.1 (by omega)) ?_
  rintro ⟨b, rd⟩ ⟨hb, h1, h2, h3⟩
  dsimp only at hb h1 h2 h3 ⊢
  refine ok.call (someData_ok N (by rw [h1]; exact hr.1) (by omega)) ?_
  rintro ⟨v, rd'⟩ ⟨hv, _⟩
  exact ok.some ⟨hb, hv⟩
omit hN in
theorem someSlot_ok (N : Nat) {r : S_reader} (h : r.b.length ≤ 2000) (h0 : 0 ≤ r.p ∧ r.p ≤ 1000000) : ok (m_S_someSlot N r) fun x => -1 ≤ x.1 ∧ x.1 ≤ 8 ∧ x.2 = ⟨r.b, r.p + 1⟩ := by
  unfold m_S_someSlot
  refine ok.call (one_ok N (by omega) (by omega) (by decide) (by decide)) ?_
  rintro ⟨v, rd⟩ ⟨h1, h2⟩
  simp at h2
  refine ok.some ⟨?_, ?_, h1⟩ <;> dsimp only <;> omega
theorem drawGetSlot_ok (l : List UInt8) : ok (m_S_DrawGetSlot N l) fun x => Sm 20 x.1.slots ∧ -1 ≤ x.2 ∧ x.2 ≤ 8 := by
  unfold m_S_DrawGetSlot
  refine ok.call (newReader_ok N l) fun r hr => ?_
  refine ok.call (anyPage_ok hN hr.1 (by omega)) ?_
  rintro ⟨b, rd⟩ ⟨hb, h1, h2, h3⟩
  dsimp only at hb h1 h2 h3 ⊢
  refine ok.call (someSlot_ok N (by rw [h1]; exact hr.1) (by omega)) ?_
  rintro ⟨v, rd'⟩ ⟨hv, hv2, _⟩
  exact ok.some ⟨hb, hv, hv2⟩
theorem drawClearSlot_ok (l : List UInt8) : ok (m_S_DrawClearSlot N l) fun x => Sm 20 x.1.slots ∧ -1 ≤ x.2 ∧ x.2 ≤ 8 := by
  unfold m_S_DrawClearSlot
  exact ok.call (drawGetSlot_ok hN l) fun r hr => ok.some hr
theorem drawSetSlot_ok (l : List UInt8) : ok (m_S_DrawSetSlot N l) fun x => Sm 20 x.1.slots ∧ x.2.2.size ≤ 64 := by
  unfold m_S_DrawSetSlot
  refine ok.call (newReader_ok N l) fun r hr => ?_
  refine ok.call (anyPage_ok hN hr.1 (by omega)) ?_
  rintro ⟨b, rd⟩ ⟨hb, h1, h2, h3⟩
  dsimp only at hb h1 h2 h3 ⊢
  refine ok.call (someSlot_ok N (by rw [h1]; exact hr.1) (by omega)) ?_
  rintro ⟨v, rd'⟩ ⟨hv, hv2, h4⟩
  dsimp only at hv hv2 h4 ⊢; subst h4
  refine ok.call (someData_ok N (by (try dsimp only); rw [h1]; exact hr.1) (by (try dsimp only); omega)) ?_
  rintro ⟨v, rd'⟩ ⟨hv, _⟩
  exact ok.some ⟨hb, hv⟩
theorem equalSlots_eq {a b : List I_Slot} (ha : a.length ≤ 4000000) : m_L_equalSlots N a b = some (decide (a = b)) := by
  unfold m_L_equalSlots
  by_cases hl : a.length = b.length
  case neg =>
    have : a ≠ b := fun e => hl (by rw [e])
    rw [decide_eq_false (by omega), cond_false]; simp [this]
  rw [decide_eq_true (by omega), cond_true]
  refine eqlist_ok (by omega) hl ?_ ?_ rfl
  · intro i h1 h2
    show m_L_equalSlots_b1 N a b (i : Int) = _
    unfold m_L_equalSlots_b1
    rw [decide_eq_true (show (i : Int) < (a.length : Int) by omega), cond_true, ixI_nat h1, ixI_nat h2]
    simp only [Option.bind_some]
    split
    · rename_i e; rw [decide_eq_true e, cond_true, chk_eq (by omega)]; rfl
    · rename_i e; rw [decide_eq_false e]; rfl
  · show m_L_equalSlots_b1 N a b _ = _
    unfold m_L_equalSlots_b1
    rw [decide_eq_false (by omega)]; rfl
end
end V
end Go.Proofs.Ytoljdhdfijnjiaa
