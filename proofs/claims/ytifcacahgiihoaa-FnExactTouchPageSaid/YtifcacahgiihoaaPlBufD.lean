/- Drawn buffers: there always is one, and it is small. No condition. -/
import Derived.Test.YtifcacahgiihoaaPlBuf
import Derived.Test.YtifcacahgiihoaaGBufE
namespace Go.Proofs.Ytifcacahgiihoaa
namespace V
set_option linter.unusedVariables false
set_option linter.unusedSimpArgs false
theorem touchB_len {b : I_Buffer} {p l : Int} : (touchB b p l).1.frames.length ≤ b.frames.length + 1 := by
  unfold touchB; split
  · split
    · split <;> simp
    · split
      · simp
      · split <;> simp
  · simp
theorem writeB_len {b : I_Buffer} {p : Int} : (writeB b p).1.frames.length ≤ b.frames.length := by
  unfold writeB; split
  · split <;> simp
  · simp
theorem forceB_len {b : I_Buffer} {l : Int} : (forceB b l).frames.length ≤ b.frames.length := by unfold forceB; split <;> simp
section
variable {N : Nat} (hN : 100000000 ≤ N)
include hN
theorem touch_ok {b : I_Buffer} {p l : Int} (hb : b.frames.length ≤ 4000000) : ok (m_S_TouchPage N b p l) fun x => x.1.frames.length ≤ b.frames.length + 1 := ⟨_, touchS hN hb, touchB_len⟩
theorem write_ok {b : I_Buffer} {p : Int} (hb : b.frames.length ≤ 4000000) : ok (m_S_WritePage N b p) fun x => x.1.frames.length ≤ b.frames.length := ⟨_, writeS hN hb, writeB_len⟩
theorem anyBuffer_ok {r : S_reader} (h : r.b.length ≤ 2000) (h0 : 0 ≤ r.p ∧ r.p ≤ 1000) : ok (m_S_anyBuffer N r) fun x => x.1.frames.length ≤ 10 ∧ x.2.b = r.b ∧ 0 ≤ x.2.p ∧ x.2.p ≤ r.p + 1000 := by
  unfold m_S_anyBuffer
  refine ok.call (one_ok N (by omega) (by omega) (by decide) (by decide)) ?_
  rintro ⟨f0, r1⟩ ⟨hr1, hf0⟩
  dsimp only at hr1 hf0 ⊢; subst hr1
  refine ok.call (one_ok N (by (try dsimp only); omega) (by (try dsimp only); omega) (by decide) (by decide)) ?_
  rintro ⟨n0, r2⟩ ⟨hr2, hn0⟩
  dsimp only at hr2 hn0 ⊢; subst hr2
  have hn : 0 ≤ n0 ∧ n0 ≤ 8 := by simp at hn0; omega
  refine ok.call (ok.loop (fun s => 0 ≤ s.2.1 ∧ s.2.1 ≤ 8 ∧ s.2.2.1 = r.b ∧ 0 ≤ s.2.2.2.1 ∧ s.2.2.2.1 ≤ r.p + 2 + (8 - s.2.1) * 4 ∧ 0 ≤ s.1 ∧ s.1 ≤ (8 - s.2.1) * 6 ∧ (s.2.2.2.2.2.length : Int) ≤ 8 - s.2.1) (fun s => s.2.1.toNat) (fun e => e.1 = r.b ∧ 0 ≤ e.2.1 ∧ e.2.1 ≤ r.p + 34 ∧ e.2.2.2.length ≤ 8) ?_ N _ ?_ ?_) ?_
  · rintro ⟨lsn, n, rb, p, fo, fr⟩ ⟨h1, h2, h3, h4, h5, h6, h7, h8⟩
    dsimp only at h1 h2 h3 h4 h5 h6 h7 h8 ⊢
    subst h3
    unfold m_S_anyBuffer_b1
    repeat' (first | (with_reducible refine ok.some ?_) | ((with_reducible refine ok.call (pick_ok N (by (try dsimp only); omega) (by (try dsimp only); omega) (by omega)) ?_; rintro ⟨v, rd⟩ ⟨hrd, hv1, hv2⟩; (try dsimp only at hrd hv1 hv2); subst hrd; (try dsimp only))) | ((with_reducible refine ok.call (touch_ok hN (by (try dsimp only); omega)) ?_; rintro ⟨tb, tf⟩ ht; (try dsimp only at ht ⊢))) | ((with_reducible refine ok.call (write_ok hN (by (try dsimp only); omega)) ?_; rintro ⟨wb, wf⟩ hw; (try dsimp only at hw ⊢))) | (with_reducible refine ok.ite (fun hc => ?_) (fun hc => ?_)) | (with_reducible refine ok.cond (fun hc => ?_) (fun hc => ?_)) | (with_reducible refine ok.chk (by omega) ?_) | (with_reducible refine ok.bs ?_) | (with_reducible refine ok.remM (by omega) (fun _ hq => ?_)) | (with_reducible refine ok.quoM (by omega) (fun _ hq => ?_)) | (with_reducible refine ok.ix (by omega) (by omega) (fun q hq he => ?_)))
    all_goals try dsimp only
    all_goals first
      | (refine ⟨⟨?_, ?_, rfl, ?_, ?_, ?_, ?_, ?_⟩, ?_⟩ <;> omega)
      | (refine ⟨rfl, ?_, ?_, ?_⟩ <;> omega)
  · dsimp only; refine ⟨?_, ?_, rfl, ?_, ?_, ?_, ?_, ?_⟩ <;> first | omega | (simp; omega)
  · dsimp only; omega
  · rintro ⟨rb, p, fo, fr⟩ ⟨h1, h2, h3, h4⟩
    dsimp only at h1 h2 h3 h4 ⊢
    subst h1
    unfold m_S_anyBuffer_k1
    repeat' (first | (with_reducible refine ok.some ?_) | ((with_reducible refine ok.call (pick_ok N (by (try dsimp only); omega) (by (try dsimp only); omega) (by omega)) ?_; rintro ⟨v, rd⟩ ⟨hrd, hv1, hv2⟩; (try dsimp only at hrd hv1 hv2); subst hrd; (try dsimp only))) | ((with_reducible refine ok.call (one_ok N (by (try dsimp only); omega) (by (try dsimp only); omega) (by decide) (by decide)) ?_; rintro ⟨v, rd⟩ ⟨hrd, hv1⟩; (try dsimp only at hrd hv1); subst hrd; (try dsimp only))) | ((with_reducible refine ok.app ⟨by simp; omega, by simp; omega⟩ ?_)) | (with_reducible refine ok.ite (fun hc => ?_) (fun hc => ?_)) | (with_reducible refine ok.cond (fun hc => ?_) (fun hc => ?_)) | (with_reducible refine ok.chk (by omega) ?_) | (with_reducible refine ok.bs ?_) | (with_reducible refine ok.remM (by omega) (fun _ hq => ?_)) | (with_reducible refine ok.quoM (by omega) (fun _ hq => ?_)) | (with_reducible refine ok.ix (by omega) (by omega) (fun q hq he => ?_)))
    all_goals try dsimp only
    all_goals refine ⟨?_, rfl, ?_, ?_⟩ <;> first | omega | (simp; omega)
theorem drawForceLog_ok (l : List UInt8) : ok (m_S_DrawForceLog N l) fun x => x.1.frames.length ≤ 10 ∧ -1 ≤ x.2 ∧ x.2 ≤ 10000 := by
  unfold m_S_DrawForceLog
  refine ok.call (newReader_ok N l) fun r hr => ?_
  refine ok.call (anyBuffer_ok hN hr.1 (by omega)) ?_
  rintro ⟨b, rd⟩ ⟨hb, h1, h2, h3⟩
  dsimp only at hb h1 h2 h3 ⊢
  refine ok.call (one_ok N (by rw [h1]; omega) (by omega) (by decide) (by decide)) ?_
  rintro ⟨v, rd'⟩ ⟨_, hv⟩
  dsimp only at hv ⊢
  refine ok.some ⟨hb, ?_⟩
  simp at hv; dsimp only; omega
theorem drawTouchPage_ok (l : List UInt8) : ok (m_S_DrawTouchPage N l) fun x => x.1.frames.length ≤ 10 ∧ -1 ≤ x.2.2 ∧ x.2.2 ≤ 10000 := by
  unfold m_S_DrawTouchPage
  refine ok.call (newReader_ok N l) fun r hr => ?_
  refine ok.call (anyBuffer_ok hN hr.1 (by omega)) ?_
  rintro ⟨b, rd⟩ ⟨hb, h1, h2, h3⟩
  dsimp only at hb h1 h2 h3 ⊢
  refine ok.call (one_ok N (by rw [h1]; omega) (by omega) (by decide) (by decide)) ?_
  rintro ⟨v, rd'⟩ ⟨hrd, hv⟩
  dsimp only at hv hrd ⊢; subst hrd
  refine ok.call (one_ok N (by rw [h1]; omega) (by (try dsimp only); omega) (by decide) (by decide)) ?_
  rintro ⟨v, rd'⟩ ⟨_, hv⟩
  dsimp only at hv ⊢
  refine ok.some ⟨hb, ?_⟩
  simp at hv; dsimp only; omega
theorem drawWritePage_ok (l : List UInt8) : ok (m_S_DrawWritePage N l) fun x => x.1.frames.length ≤ 10 := by
  unfold m_S_DrawWritePage m_S_DrawCanWrite
  refine ok.call ?_ fun r (hr : r.1.frames.length ≤ 10) => ok.some hr
  refine ok.call (newReader_ok N l) fun r hr => ?_
  refine ok.call (anyBuffer_ok hN hr.1 (by omega)) ?_
  rintro ⟨b, rd⟩ ⟨hb, h1, h2, h3⟩
  dsimp only at hb h1 h2 h3 ⊢
  refine ok.call (one_ok N (by rw [h1]; omega) (by omega) (by decide) (by decide)) fun r' _ => ok.some hb
/-! equality -/
omit hN in
theorem list_ext' {α : Type} {xs ys : List α} (h : xs.length = ys.length) (hh : ∀ i (h : i < xs.length) (h' : i < ys.length), xs[i] = ys[i]) : xs = ys := List.ext_getElem h hh
theorem equalFrames_eq {a b : List I_Frame} (ha : a.length ≤ 4000000) : m_L_equalFrames N a b = some (decide (a = b)) := by
  refine bool_eq ?_
  unfold m_L_equalFrames
  repeat' (first | (with_reducible refine ok.some ?_) | (fail) | (with_reducible refine ok.ite (fun hc => ?_) (fun hc => ?_)) | (with_reducible refine ok.cond (fun hc => ?_) (fun hc => ?_)) | (with_reducible refine ok.chk (by omega) ?_) | (with_reducible refine ok.bs ?_) | (with_reducible refine ok.remM (by omega) (fun _ hq => ?_)) | (with_reducible refine ok.quoM (by omega) (fun _ hq => ?_)) | (with_reducible refine ok.ix (by omega) (by omega) (fun q hq he => ?_)))
  · have hl : a.length = b.length := by omega
    refine ok.call (P := fun o => match o with | .inl _ => a = b | .inr v => v = false ∧ a ≠ b) (ok.up a.length (fun k => ∀ (h : k < a.length) (h' : k < b.length), a[k] = b[k]) _ (by omega) ?_ ?_) ?_
    · intro i hi hg
      have hib : i < b.length := by omega
      show ok (m_L_equalFrames_b1 N a b i) _
      unfold m_L_equalFrames_b1
      repeat' (first | (with_reducible refine ok.some ?_) | ((with_reducible refine ok.eq (ixI_nat hi) ?_)) | ((with_reducible refine ok.eq (ixI_nat hib) ?_)) | (with_reducible refine ok.ite (fun hc => ?_) (fun hc => ?_)) | (with_reducible refine ok.cond (fun hc => ?_) (fun hc => ?_)) | (with_reducible refine ok.chk (by omega) ?_) | (with_reducible refine ok.bs ?_) | (with_reducible refine ok.remM (by omega) (fun _ hq => ?_)) | (with_reducible refine ok.quoM (by omega) (fun _ hq => ?_)) | (with_reducible refine ok.ix (by omega) (by omega) (fun q hq he => ?_)))
      · exact ⟨rfl, fun _ _ => ‹_›⟩
      · refine ⟨rfl, fun e => ?_⟩
        subst e; exact ‹¬ _› rfl
      · omega
    · intro hg
      show ok (m_L_equalFrames_b1 N a b _) _
      unfold m_L_equalFrames_b1
      repeat' (first | (with_reducible refine ok.some ?_) | (with_reducible refine ok.iff (by omega) ?_) | (with_reducible refine ok.ite (fun hc => ?_) (fun hc => ?_)) | (with_reducible refine ok.cond (fun hc => ?_) (fun hc => ?_)) | (with_reducible refine ok.chk (by omega) ?_) | (with_reducible refine ok.bs ?_) | (with_reducible refine ok.remM (by omega) (fun _ hq => ?_)) | (with_reducible refine ok.quoM (by omega) (fun _ hq => ?_)) | (with_reducible refine ok.ix (by omega) (by omega) (fun q hq he => ?_)))
      exact list_ext' hl fun i h h' => hg i h h h'
    · rintro (u | r) h
      · exact ok.some ⟨fun _ => h, fun _ => rfl⟩
      · exact ok.some (by simp [h.1, h.2])
  · refine ⟨fun h => (by cases h), fun h => ?_⟩
    subst h; omega
theorem equalBuffer_eq {a b : I_Buffer} (ha : a.frames.length ≤ 4000000) : m_L_equalBuffer N a b = some (decide (a = b)) := by
  unfold m_L_equalBuffer
  rw [equalFrames_eq hN ha]
  cases a with | mk a1 a2 => cases b with | mk b1 b2 =>
    simp only [I_Buffer.mk.injEq]
    by_cases h1 : a1 = b1 <;> by_cases h2 : a2 = b2 <;> simp [h1, h2]
end
end V
end Go.Proofs.Ytifcacahgiihoaa
