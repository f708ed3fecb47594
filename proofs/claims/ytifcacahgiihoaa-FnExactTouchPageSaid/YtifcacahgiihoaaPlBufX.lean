/- The helpers of the buffers' exact laws, in plain words. No condition. -/
import Derived.Test.YtifcacahgiihoaaPlX
import Derived.Test.YtifcacahgiihoaaGBufX
namespace Go.Proofs.Ytifcacahgiihoaa
namespace V
set_option linter.unusedVariables false
set_option linter.unusedSimpArgs false
set_option maxRecDepth 100000
def toFr (x : L_Frame) : I_Frame := ⟨x.page, x.dirty, x.first, x.last⟩
def toBuf (x : L_Buffer) : I_Buffer := ⟨x.frames.map toFr, x.forced⟩
def mkFr (x : I_Frame) (k : Int) : I_Frame := ⟨k, decide ((k + 1) % 3 = 0), k + 1 + 1, k + 1 + 1 + 1⟩
section
variable {N : Nat}
theorem len_L_markFrameS (N : Nat) (a : List I_Frame) (k : Int) (r : Int × List I_Frame) (h : m_L_markFrameS N a k = some r) : r.2.length = a.length := by
  unfold m_L_markFrameS at h
  obtain ⟨o, h1, h2⟩ := bind_some h
  unfold m_L_markFrameS_k1 at h2
  cases h2
  refine al.loop (fun s => s.2.2.length = a.length) (fun b => b.2.length = a.length) ?_ N _ rfl _ h1
  rintro ⟨k, i, v⟩ hv
  show al (m_L_markFrameS_b1 N k i v) _
  unfold m_L_markFrameS_b1
  repeat' (first | exact al.some hv | (refine al.cond (fun _ => ?_) (fun _ => ?_)) | (refine al.bind (fun _ _ => ?_)) | (refine al.some ?_; simpa only [List.length_set] using hv))
theorem len_L_markBuffer (N : Nat) (a : I_Buffer) (k : Int) (r : Int × List I_Frame) (h : m_L_markBuffer N a k = some r) : r.2.length = a.frames.length := by
  unfold m_L_markBuffer at h
  obtain ⟨o, h1, h2⟩ := bind_some h
  cases h2
  exact len_L_markFrameS N _ _ _ h1
variable (hN : 100000000 ≤ N)
include hN
theorem toFrameS_eq {a : List L_Frame} (ha : a.length ≤ 4000000) : m_L_toFrameS N a = some (a.map toFr) := by
  unfold m_L_toFrameS
  have hm : mkM 32 (⟨0, false, 0, 0⟩ : I_Frame) (a.length : Int) = some (List.replicate a.length ⟨0, false, 0, 0⟩) := by unfold mkM; rw [if_pos (by omega)]; simp
  rw [hm]
  show (loopM _ N _).bind _ = _
  rw [to_loop a toFr (List.replicate a.length ⟨0, false, 0, 0⟩) (by simp) (by omega)]
  · rfl
  · intro i hi v hv
    unfold m_L_toFrameS_b1 m_L_toFrame
    rw [decide_eq_true (by show (i : Int) < _; omega), cond_true, ixI_nat hi, ixI_nat (show i < v.length by omega), chk_eq (by show _ ≤ (i : Int) + 1 ∧ _; omega)]
    rfl
  · intro v
    unfold m_L_toFrameS_b1
    rw [decide_eq_false (by show ¬ (a.length : Int) < _; omega)]; rfl
theorem toBuffer_eq {a : L_Buffer} (ha : a.frames.length ≤ 4000000) : m_L_toBuffer N a = some (toBuf a) := by
  unfold m_L_toBuffer; rw [toFrameS_eq hN ha]; rfl
omit hN in
theorem eqFrame_eq (a b : I_Frame) : m_L_eqFrame N a b = some (decide (a = b)) := by
  unfold m_L_eqFrame
  cases a with | mk a1 a2 a3 a4 => cases b with | mk b1 b2 b3 b4 =>
    simp only [I_Frame.mk.injEq]
    by_cases h1 : a1 = b1 <;> by_cases h2 : a2 = b2 <;> by_cases h3 : a3 = b3 <;> by_cases h4 : a4 = b4 <;> first | (simp [h1, h2, h3, h4]; done) | (cases a2 <;> cases b2 <;> simp_all)
theorem eqFrameS_self {a : List I_Frame} (ha : a.length ≤ 5000000) : m_L_eqFrameS N a a = some true := by
  unfold m_L_eqFrameS
  rw [decide_eq_true rfl, cond_true]
  have h := ok.up (body := fun s : Int => m_L_eqFrameS_b1 N a a s) a.length (fun _ => True) (fun o => o = .inl ()) (N := N) (by omega) ?_ ?_
  · obtain ⟨o, e, rfl⟩ := h; rw [e]; rfl
  · intro i hi _
    show ok (m_L_eqFrameS_b1 N a a i) _
    unfold m_L_eqFrameS_b1
    repeat' (first | (with_reducible refine ok.some ?_) | ((with_reducible refine ok.eq (ixI_nat hi) ?_)) | ((with_reducible refine ok.eq (eqFrame_eq _ _) ?_)) | (with_reducible refine ok.ite (fun hc => ?_) (fun hc => ?_)) | (with_reducible refine ok.cond (fun hc => ?_) (fun hc => ?_)) | (with_reducible refine ok.chk (by omega) ?_) | (with_reducible refine ok.bs ?_) | (with_reducible refine ok.remM (by omega) (fun _ hq => ?_)) | (with_reducible refine ok.quoM (by omega) (fun _ hq => ?_)) | (with_reducible refine ok.ix (by omega) (by omega) (fun q hq he => ?_)))
    · exact ⟨rfl, trivial⟩
    · exact absurd rfl ‹_›
    · omega
  · intro _
    show ok (m_L_eqFrameS_b1 N a a _) _
    unfold m_L_eqFrameS_b1
    repeat' (first | (with_reducible refine ok.some ?_) | (with_reducible refine ok.iff (by omega) ?_) | (with_reducible refine ok.ite (fun hc => ?_) (fun hc => ?_)) | (with_reducible refine ok.cond (fun hc => ?_) (fun hc => ?_)) | (with_reducible refine ok.chk (by omega) ?_) | (with_reducible refine ok.bs ?_) | (with_reducible refine ok.remM (by omega) (fun _ hq => ?_)) | (with_reducible refine ok.quoM (by omega) (fun _ hq => ?_)) | (with_reducible refine ok.ix (by omega) (by omega) (fun q hq he => ?_)))
    rfl
theorem eqBuffer_self {a : I_Buffer} (ha : a.frames.length ≤ 5000000) : m_L_eqBuffer N a a = some true := by
  unfold m_L_eqBuffer; rw [eqFrameS_self hN ha]; simp
theorem markFrameS_eq {a : List I_Frame} (ha : a.length ≤ 5000000) : m_L_markFrameS N a 1 = some (1 + ((4 * a.length : Nat) : Int), mkL mkFr (fun _ => 4) a 1) := by
  unfold m_L_markFrameS
  have hc : ∀ xs : List I_Frame, cL (fun _ => 4) xs = 4 * xs.length := cL_const _ (fun _ => rfl)
  rw [mark_loop mkFr (fun _ => 4) a 1 (by omega)]
  · rw [hc]; rfl
  · intro i hi v hv hx
    obtain ⟨hi', hx⟩ := List.getElem?_eq_some_iff.1 hx
    have hb : cL (fun _ => 4) (a.take i) = 4 * i := by rw [hc, List.length_take]; omega
    simp only [hb]
    have hx' : ixI v (i : Int) = some a[i] := by rw [ixI_nat hi', hx]
    show m_L_markFrameS_b1 N (1 + ((4 * i : Nat) : Int)) i v = _
    refine ok.val ?_
    unfold m_L_markFrameS_b1
    repeat' (first | (with_reducible refine ok.some ?_) | (with_reducible refine ok.ift (by omega) ?_) | (with_reducible refine ok.eq hx' ?_) | (with_reducible refine ok.ite (fun hc => ?_) (fun hc => ?_)) | (with_reducible refine ok.cond (fun hc => ?_) (fun hc => ?_)) | (with_reducible refine ok.chk (by omega) ?_) | (with_reducible refine ok.bs ?_) | (with_reducible refine ok.remM (by omega) (fun _ hq => ?_)) | (with_reducible refine ok.quoM (by omega) (fun _ hq => ?_)) | (with_reducible refine ok.ix (by omega) (by omega) (fun q hq he => ?_)))
    obtain ⟨rfl, _⟩ := hq
    simp only [List.set_set, mkFr, Int.toNat_natCast, Int.add_assoc]
    rfl
  · intro k v hv
    unfold m_L_markFrameS_b1
    rw [decide_eq_false (by show ¬ (a.length : Int) < (v.length : Int); omega)]; rfl
theorem heldFrameS_eq {a : List I_Frame} (ha : a.length ≤ 5000000) : m_L_heldFrameS N (mkL mkFr (fun _ => 4) a 1) 1 = some (1 + ((4 * a.length : Nat) : Int)) := by
  unfold m_L_heldFrameS
  have hc : ∀ xs : List I_Frame, cL (fun _ => 4) xs = 4 * xs.length := cL_const _ (fun _ => rfl)
  rw [held_loop mkFr (fun _ => 4) a 1 (by omega)]
  · rw [hc]; rfl
  · intro i hi hx
    obtain ⟨hi', hx⟩ := List.getElem?_eq_some_iff.1 hx
    have hb : cL (fun _ => 4) (a.take i) = 4 * i := by rw [hc, List.length_take]; omega
    rw [hb] at hx
    simp only [hb]
    have hx' : ixI (mkL mkFr (fun _ => 4) a 1) (i : Int) = some (mkFr a[i] (1 + ((4 * i : Nat) : Int))) := by rw [ixI_nat hi', hx]
    have hl := mkL_len mkFr (fun _ => 4) a 1
    show m_L_heldFrameS_b1 N (mkL mkFr (fun _ => 4) a 1) (1 + ((4 * i : Nat) : Int)) i = _
    refine ok.val ?_
    unfold m_L_heldFrameS_b1
    simp only [mkFr] at hx'
    repeat' (first | (with_reducible refine ok.some ?_) | (with_reducible refine ok.ift rfl ?_) | (with_reducible refine ok.ift (by omega) ?_) | (with_reducible refine ok.eq hx' ?_) | (with_reducible refine ok.bt (by rw [hq.1]; exact beq_self_eq_true _) ?_) | (with_reducible refine ok.ite (fun hc => ?_) (fun hc => ?_)) | (with_reducible refine ok.cond (fun hc => ?_) (fun hc => ?_)) | (with_reducible refine ok.chk (by omega) ?_) | (with_reducible refine ok.bs ?_) | (with_reducible refine ok.remM (by omega) (fun _ hq => ?_)) | (with_reducible refine ok.quoM (by omega) (fun _ hq => ?_)) | (with_reducible refine ok.ix (by omega) (by omega) (fun q hq he => ?_)))
    simp only [Int.add_assoc]; rfl
  · intro k
    unfold m_L_heldFrameS_b1
    have hl := mkL_len mkFr (fun _ => 4) a 1
    rw [decide_eq_false (by show ¬ (a.length : Int) < _; omega)]; rfl
theorem markBuffer_eq {a : I_Buffer} (ha : a.frames.length ≤ 5000000) : m_L_markBuffer N a 1 = some (1 + ((4 * a.frames.length : Nat) : Int), mkL mkFr (fun _ => 4) a.frames 1) := by
  unfold m_L_markBuffer; rw [markFrameS_eq hN ha]; rfl
theorem heldBuffer_eq {a : I_Buffer} {f : Int} (ha : a.frames.length ≤ 5000000) : m_L_heldBuffer N ⟨mkL mkFr (fun _ => 4) a.frames 1, f⟩ 1 = some (1 + ((4 * a.frames.length : Nat) : Int)) := by
  unfold m_L_heldBuffer; rw [heldFrameS_eq hN ha]
  refine ok.val ?_
  repeat' (first | (with_reducible refine ok.some ?_) | (with_reducible refine ok.iff (by omega) ?_) | (with_reducible refine ok.ite (fun hc => ?_) (fun hc => ?_)) | (with_reducible refine ok.cond (fun hc => ?_) (fun hc => ?_)) | (with_reducible refine ok.chk (by omega) ?_) | (with_reducible refine ok.bs ?_) | (with_reducible refine ok.remM (by omega) (fun _ hq => ?_)) | (with_reducible refine ok.quoM (by omega) (fun _ hq => ?_)) | (with_reducible refine ok.ix (by omega) (by omega) (fun q hq he => ?_)))
  rfl
omit hN in
theorem szBuffer_ok {a : L_Buffer} (ha : a.frames.length ≤ 9223372036854775807) : ok (m_L_szBuffer N a 1048576) fun r => r < 0 ∨ a.frames.length ≤ 1048576 := by
  unfold m_L_szBuffer m_L_szFrameS
  refine ok.call (P := fun r => r < 0 ∨ a.frames.length ≤ 1048576) ?_ fun r h => ?_
  · repeat' (first | (with_reducible refine ok.some ?_) | (with_reducible refine ok.ite (fun hc => ?_) (fun hc => ?_)) | (with_reducible refine ok.cond (fun hc => ?_) (fun hc => ?_)) | (with_reducible refine ok.chk (by omega) ?_) | (with_reducible refine ok.bs ?_) | (with_reducible refine ok.remM (by omega) (fun _ hq => ?_)) | (with_reducible refine ok.quoM (by omega) (fun _ hq => ?_)) | (with_reducible refine ok.ix (by omega) (by omega) (fun q hq he => ?_)))
    · exact .inl (by omega)
    · exact .inr (by omega)
  · repeat' (first | (with_reducible refine ok.some ?_) | (with_reducible refine ok.ite (fun hc => ?_) (fun hc => ?_)) | (with_reducible refine ok.cond (fun hc => ?_) (fun hc => ?_)) | (with_reducible refine ok.chk (by omega) ?_) | (with_reducible refine ok.bs ?_) | (with_reducible refine ok.remM (by omega) (fun _ hq => ?_)) | (with_reducible refine ok.quoM (by omega) (fun _ hq => ?_)) | (with_reducible refine ok.ix (by omega) (by omega) (fun q hq he => ?_)))
    · exact .inl (by omega)
    · exact h
end
end V
end Go.Proofs.Ytifcacahgiihoaa
