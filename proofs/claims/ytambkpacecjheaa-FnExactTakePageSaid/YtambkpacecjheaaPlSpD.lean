/- Drawn spaces: there always is one, and it is small. No condition. -/
import Derived.Test.YtambkpacecjheaaPlSpB
import Derived.Test.YtambkpacecjheaaPlSort
import Derived.Test.YtambkpacecjheaaPlRd
import Derived.Test.YtambkpacecjheaaSpEa
import Derived.Test.YtambkpacecjheaaSpR
namespace Go.Proofs.Ytambkpacecjheaa
namespace V
set_option linter.unusedVariables false
set_option linter.unusedSimpArgs false
set_option maxHeartbeats 1000000
/-- The pages that are released, the pages that stay. -/
def outH (t : Int) (l : List I_Hold) : List Int := (l.filter fun h => decide (h.since < t)).map I_Hold.page
def stayH (t : Int) (l : List I_Hold) : List I_Hold := l.filter fun h => !decide (h.since < t)
theorem outH_len (t : Int) (l : List I_Hold) : (outH t l).length ≤ l.length := by unfold outH; rw [List.length_map]; exact List.length_filter_le _ _
theorem stayH_len (t : Int) (l : List I_Hold) : (stayH t l).length ≤ l.length := List.length_filter_le _ _
theorem outH_take (t : Int) {l : List I_Hold} {i : Nat} (h : i < l.length) : outH t (l.take (i + 1)) = if l[i].since < t then outH t (l.take i) ++ [l[i].page] else outH t (l.take i) := by
  rw [take_succ1 h]; unfold outH; rw [List.filter_append, List.map_append]
  by_cases hc : l[i].since < t <;> simp [hc]
theorem stayH_take (t : Int) {l : List I_Hold} {i : Nat} (h : i < l.length) : stayH t (l.take (i + 1)) = if l[i].since < t then stayH t (l.take i) else stayH t (l.take i) ++ [l[i]] := by
  rw [take_succ1 h]; unfold stayH; rw [List.filter_append]
  by_cases hc : l[i].since < t <;> simp [hc]
theorem outstay_len (t : Int) : ∀ l : List I_Hold, (outH t l).length + (stayH t l).length = l.length
  | [] => rfl
  | x :: l => by
    have ih := outstay_len t l
    unfold outH stayH at *
    simp only [List.length_map] at *
    by_cases h : x.since < t <;> simp [h] <;> omega
noncomputable def relP (s : I_Space) (t : Int) : I_Space := if vS s then ⟨s.pages, sortP (s.free ++ outH t s.held), stayH t s.held⟩ else zS
noncomputable def takeP (s : I_Space) : I_Space × Int × Bool := if vS s then (match s.free with | [] => if s.pages = 16 then (zS, -1, false) else (⟨s.pages + 1, [], s.held⟩, s.pages, true) | x :: l => (⟨s.pages, l, s.held⟩, x, true)) else (zS, -1, false)
section
variable {N : Nat} (hN : 100000000 ≤ N)
include hN
theorem relS {s : I_Space} (hf : s.free.length ≤ 4000000) (t : Int) : m_S_ReleasePages N s t = some (relP s t) := by
  refine ok.val ?_
  unfold m_S_ReleasePages
  refine ok.eq (validS hN (by omega)) (ok.ite (fun hv => ?_) fun hv => ok.some (by unfold relP; rw [if_neg hv]; rfl))
  have hlF := hv.lenF
  have hlH := hv.lenH
  refine ok.eq (copyInts_eq (by omega)) ?_
  refine ok.call (ok.each s.held.length (fun i st => st = ((i : Int), s.free ++ outH t (s.held.take i), stayH t (s.held.take i))) (fun e => e = (s.free ++ outH t s.held, stayH t s.held)) ?_ ?_ N 0 _ (Nat.zero_le _) (by simp [outH, stayH]) (by omega)) ?_
  · rintro i _ hi rfl
    have h1 := outH_len t (s.held.take i)
    have h2 := stayH_len t (s.held.take i)
    have h3 : (s.held.take i).length ≤ 16 := by simp; omega
    unfold m_S_ReleasePages_b1
    dsimp only
    refine ok.ift (by omega) (ok.eq (ixI_nat hi) (ok.ite (fun hc => ok.eq (ixI_nat hi) (ok.app ⟨by simp; omega, by simp; omega⟩ (ok.chk (by omega) (ok.some ?_)))) fun hc => ok.eq (ixI_nat hi) (ok.app ⟨by simp; omega, by simp; omega⟩ (ok.chk (by omega) (ok.some ?_)))))
    · show (_, _) = (_, _)
      rw [outH_take t hi, stayH_take t hi, if_pos hc, if_pos hc, List.append_assoc]; rfl
    · show (_, _) = (_, _)
      rw [outH_take t hi, stayH_take t hi, if_neg hc, if_neg hc]; rfl
  · rintro _ rfl
    unfold m_S_ReleasePages_b1
    refine ok.iff (by dsimp only; omega) (ok.some ?_)
    show _ = _
    rw [List.take_length]
  · rintro _ rfl
    unfold m_S_ReleasePages_k1
    have h1 := outH_len t s.held
    refine ok.eq (sortedS hN (by simp; omega)) (ok.some ?_)
    unfold relP; rw [if_pos hv]
theorem takeS {s : I_Space} (hf : s.free.length ≤ 4000000) (hh : s.held.length ≤ 4000000) : m_S_TakePage N s = some (takeP s) := by
  refine ok.val ?_
  unfold m_S_TakePage
  refine ok.eq (validS hN (by omega)) (ok.ite (fun hv => ?_) fun hv => ok.some (by unfold takeP; rw [if_neg hv]; rfl))
  have hlo := hv.lo
  have hhi := hv.hi
  unfold takeP; rw [if_pos hv]
  obtain ⟨pages, free, held⟩ := s
  cases free with
  | nil =>
    dsimp only at *
    refine ok.ift rfl (ok.ite (fun h => ok.some (by rw [if_pos h]; rfl)) fun h => ok.eq (copySpace_eq (by show 0 ≤ _; omega) (by dsimp only; omega)) (ok.chk (by omega) (ok.some (by rw [if_neg h]))))
  | cons x l =>
    dsimp only at *
    simp only [List.length_cons] at hf
    refine ok.iff (by simp; omega) (ok.eq (copySpace_eq (by dsimp only; simp; omega) (by dsimp only; omega)) ?_)
    rw [subM_eq (by simp; omega)]
    refine ok.bs (ok.eq (copyInts_eq (by simp; omega)) (ok.eq (ixI_eq (n := 0) rfl (by simp)) (ok.some ?_)))
    simp
omit hN in
theorem hold_len (s : I_Space) (p t : Int) : (holdP s p t).1.free.length + (holdP s p t).1.held.length ≤ s.free.length + s.held.length + 1 := by
  rcases hold_cases s p t with h | ⟨_, h⟩ <;> rw [h]
  · simp [zS]
  · simp [nextS]; omega
omit hN in
theorem rel_len (s : I_Space) (t : Int) : (relP s t).free.length + (relP s t).held.length ≤ s.free.length + s.held.length := by
  unfold relP; split
  · have := outstay_len t s.held
    simp [sortP_len]; omega
  · simp [zS]
omit hN in
theorem take_len (s : I_Space) : (takeP s).1.free.length + (takeP s).1.held.length ≤ s.free.length + s.held.length := by
  obtain ⟨pages, free, held⟩ := s
  unfold takeP; split
  · cases free with
    | nil => dsimp only; split <;> simp [zS]
    | cons x l => simp
  · simp [zS]
omit hN in
theorem spoil_ok {r : S_reader} (h : r.b.length ≤ 2000) (h0 : 0 ≤ r.p ∧ r.p ≤ 100000) {l : List Int} (hl : l.length ≤ 1000) (n : Int) : ok (m_S_reader_spoil N r l n) fun x => x.1.length ≤ l.length + 1 ∧ x.2.b = r.b ∧ 0 ≤ x.2.p ∧ x.2.p ≤ r.p + 3 := by
  unfold m_S_reader_spoil
  refine ok.eq (copyInts_eq (by omega)) ?_
  refine ok.call (pick_ok N (by omega) (by omega) (by omega)) ?_
  rintro ⟨v, rd⟩ ⟨hrd, hv1, hv2⟩
  dsimp only at hrd hv1 hv2 ⊢; subst hrd
  refine ok.ite (fun _ => ok.app ⟨by simp; omega, by simp; omega⟩ (ok.some ⟨by simp, rfl, by dsimp only; omega, by dsimp only; omega⟩)) fun _ => ?_
  have same : ok (some (l, (⟨r.b, r.p + 1⟩ : S_reader))) fun x => x.1.length ≤ l.length + 1 ∧ x.2.b = r.b ∧ 0 ≤ x.2.p ∧ x.2.p ≤ r.p + 3 := ok.some ⟨by dsimp only; omega, rfl, by dsimp only; omega, by dsimp only; omega⟩
  refine ok.ite (fun _ => ok.ite (fun hc => ?_) fun _ => same) fun _ => ok.ite (fun _ => ok.ite (fun hc => ?_) fun _ => same) fun _ => same
  · rw [subM_eq (by omega)]
    exact ok.some ⟨by simp; omega, rfl, by dsimp only; omega, by dsimp only; omega⟩
  · refine ok.call (pick_ok N (by dsimp only; omega) (by dsimp only; omega) (by omega)) ?_
    rintro ⟨v2, rd⟩ ⟨hrd, hw1, hw2⟩
    dsimp only at hrd hw1 hw2 ⊢; subst hrd
    refine ok.call (one_ok N (by dsimp only; omega) (by dsimp only; omega) (by simp) (by simp)) ?_
    rintro ⟨v3, rd⟩ ⟨hrd, hv3⟩
    dsimp only at hrd hv3 ⊢; subst hrd
    refine ok.ix (by omega) (by omega) fun q hq he => ok.some ⟨by simp, rfl, by dsimp only; omega, by dsimp only; omega⟩
/-- Few pages. -/
def SmS (s : I_Space) : Prop := s.free.length ≤ 30 ∧ s.held.length ≤ 30
theorem anySpace_ok {r : S_reader} (h : r.b.length ≤ 2000) (h0 : r.p = 0) : ok (m_S_anySpace N r) fun x => SmS x.1 ∧ x.2.b = r.b ∧ 0 ≤ x.2.p ∧ x.2.p ≤ 300 := by
  unfold m_S_anySpace
  refine ok.call (one_ok N (by omega) (by omega) (by decide) (by decide)) ?_
  rintro ⟨n0, r1⟩ ⟨hr1, hn0⟩
  dsimp only at hr1 hn0 ⊢; subst hr1
  have hn : 0 ≤ n0 ∧ n0 ≤ 24 := by simp at hn0; omega
  refine ok.call (ok.loop (fun s => 0 ≤ s.2.1 ∧ s.2.1 ≤ 24 ∧ 0 ≤ s.1 ∧ s.1 ≤ 4 * (24 - s.2.1) ∧ s.2.2.1 = r.b ∧ 0 ≤ s.2.2.2.1 ∧ s.2.2.2.1 ≤ 1 + 5 * (24 - s.2.1) ∧ (s.2.2.2.2.2.1.length : Int) + (s.2.2.2.2.2.2.length : Int) ≤ 24 - s.2.1) (fun s => s.2.1.toNat) (fun e => e.1 = r.b ∧ 0 ≤ e.2.1 ∧ e.2.1 ≤ 121 ∧ e.2.2.2.1.length + e.2.2.2.2.length ≤ 24) ?_ N _ ?_ ?_) ?_
  · rintro ⟨n3, used, rb, p, pages, free, held⟩ ⟨h1, h2, h3, h4, h5, h6, h7, h8⟩
    dsimp only at h1 h2 h3 h4 h5 h6 h7 h8 ⊢
    subst h5
    unfold m_S_anySpace_b1
    refine ok.ite (fun hu => ?_) fun hu => ok.some ⟨rfl, h6, by dsimp only; omega, by dsimp only; omega⟩
    have hF : (⟨pages, free, held⟩ : I_Space).free.length ≤ 4000000 := by dsimp only; omega
    have hH : (⟨pages, free, held⟩ : I_Space).held.length ≤ 4000000 := by dsimp only; omega
    have hpl := pagesP_len ⟨pages, free, held⟩
    have hrl := fun t => rel_len ⟨pages, free, held⟩ t
    have htl := take_len ⟨pages, free, held⟩
    have hhl := fun p t => hold_len ⟨pages, free, held⟩ p t
    dsimp only at hrl htl hhl
    have rel : ∀ (rd : S_reader), rd.b = r.b → 0 ≤ rd.p ∧ rd.p ≤ p + 2 → ok ((m_S_reader_pick N rd (3 : Int)).bind fun r142 => (chk (n3 - r142.1)).bind fun n144 => (m_S_ReleasePages N (I_Space.mk pages free held) n144).bind fun r146 => (chk (used - (1 : Int))).bind fun n148 => some (.inl (n3, n148, r142.2.b, r142.2.p, r146.pages, r146.free, r146.held))) (fun y : (Int × Int × (List UInt8) × Int × Int × (List Int) × (List I_Hold)) ⊕ ((List UInt8) × Int × Int × (List Int) × (List I_Hold)) => ∃ p' t, y = .inl (n3, used - 1, r.b, p', (relP ⟨pages, free, held⟩ t).pages, (relP ⟨pages, free, held⟩ t).free, (relP ⟨pages, free, held⟩ t).held) ∧ 0 ≤ p' ∧ p' ≤ p + 3) := by
      intro rd hb hp
      refine ok.call (pick_ok N (by rw [hb]; omega) (by omega) (by omega)) ?_
      rintro ⟨v, rd'⟩ ⟨hrd, hv1, hv2⟩
      dsimp only at hrd hv1 hv2 ⊢; subst hrd
      refine ok.chk (by omega) (ok.eq (relS hN hF _) (ok.chk (by omega) (ok.some ⟨rd.p + 1, n3 - v, by dsimp only; rw [hb], by omega, by omega⟩)))
    have tk : ∀ (rd : S_reader), rd.b = r.b → 0 ≤ rd.p ∧ rd.p ≤ p + 3 → ok ((m_S_TakePage N (I_Space.mk pages free held)).bind fun r152 => cond r152.2.2 ((chk (used - (1 : Int))).bind fun n155 => some (.inl (n3, n155, rd.b, rd.p, r152.1.pages, r152.1.free, r152.1.held))) ((chk (used - (1 : Int))).bind fun n157 => some (.inl (n3, n157, rd.b, rd.p, pages, free, held)))) (fun y : (Int × Int × (List UInt8) × Int × Int × (List Int) × (List I_Hold)) ⊕ ((List UInt8) × Int × Int × (List Int) × (List I_Hold)) => ∃ p' pg fr hd, y = .inl (n3, used - 1, r.b, p', pg, fr, hd) ∧ fr.length + hd.length ≤ free.length + held.length ∧ 0 ≤ p' ∧ p' ≤ p + 3) := by
      intro rd hb hp
      refine ok.eq (takeS hN hF hH) (ok.cond (fun _ => ok.chk (by omega) (ok.some ⟨rd.p, (takeP ⟨pages, free, held⟩).1.pages, (takeP ⟨pages, free, held⟩).1.free, (takeP ⟨pages, free, held⟩).1.held, by rw [hb], htl, by omega, by omega⟩)) fun _ => ok.chk (by omega) (ok.some ⟨rd.p, pages, free, held, by rw [hb], Nat.le_refl _, by omega, by omega⟩))
    refine ok.eq (pagesS hN (by omega)) ?_
    have rest : ∀ (rd : S_reader), rd.b = r.b → 0 ≤ rd.p ∧ rd.p ≤ p + 1 → ok ((m_S_reader_pick N rd (5 : Int)).bind fun r139 => cond (decide (r139.1 = (0 : Int))) ((m_S_reader_pick N r139.2 (3 : Int)).bind fun r142 => (chk (n3 - r142.1)).bind fun n144 => (m_S_ReleasePages N (I_Space.mk pages free held) n144).bind fun r146 => (chk (used - (1 : Int))).bind fun n148 => some (.inl (n3, n148, r142.2.b, r142.2.p, r146.pages, r146.free, r146.held))) ((m_S_TakePage N (I_Space.mk pages free held)).bind fun r152 => cond r152.2.2 ((chk (used - (1 : Int))).bind fun n155 => some (.inl (n3, n155, r139.2.b, r139.2.p, r152.1.pages, r152.1.free, r152.1.held))) ((chk (used - (1 : Int))).bind fun n157 => some (.inl (n3, n157, r139.2.b, r139.2.p, pages, free, held))))) (fun y : (Int × Int × (List UInt8) × Int × Int × (List Int) × (List I_Hold)) ⊕ ((List UInt8) × Int × Int × (List Int) × (List I_Hold)) => ∃ p' pg fr hd, y = .inl (n3, used - 1, r.b, p', pg, fr, hd) ∧ fr.length + hd.length ≤ free.length + held.length ∧ 0 ≤ p' ∧ p' ≤ p + 3) := by
      intro rd hb hp
      refine ok.call (pick_ok N (by rw [hb]; omega) (by omega) (by omega)) ?_
      rintro ⟨v, rd'⟩ ⟨hrd, hv1, hv2⟩
      dsimp only at hrd hv1 hv2 ⊢; subst hrd
      refine ok.ite (fun _ => (rel ⟨rd.b, rd.p + 1⟩ hb (by dsimp only; omega)).mono ?_) fun _ => tk ⟨rd.b, rd.p + 1⟩ hb (by dsimp only; omega)
      rintro y ⟨p', t, rfl, h9, h10⟩
      exact ⟨_, _, _, _, rfl, hrl t, h9, h10⟩
    refine ok.ite (fun hc => ?_) fun hc => ?_
    · refine ok.call (pick_ok N (by dsimp only; omega) (by dsimp only; omega) (by omega)) ?_
      rintro ⟨v, rd'⟩ ⟨hrd, hv1, hv2⟩
      dsimp only at hrd hv1 hv2 ⊢; subst hrd
      refine ok.ite (fun _ => ?_) fun _ => (rest ⟨r.b, p + 1⟩ rfl (by dsimp only; omega)).mono ?_
      · refine ok.call (pick_ok N (by dsimp only; omega) (by dsimp only; omega) (by omega)) ?_
        rintro ⟨v2, rd'⟩ ⟨hrd, hw1, hw2⟩
        dsimp only at hrd hw1 hw2 ⊢; subst hrd
        refine ok.chk (by omega) (ok.call (pick_ok N (by dsimp only; omega) (by dsimp only; omega) (by omega)) ?_)
        rintro ⟨v, rd'⟩ ⟨hrd, hx1, hx2⟩
        dsimp only at hrd hx1 hx2 ⊢; subst hrd
        refine ok.ix (by omega) (by omega) fun q hq he => ok.eq (holdS hN hF hH _ _) (ok.chk (by omega) (ok.some ?_))
        have := hhl (pagesP ⟨pages, free, held⟩)[q] (n3 + v2)
        refine ⟨⟨?_, ?_, ?_, ?_, rfl, ?_, ?_, ?_⟩, ?_⟩ <;> dsimp only <;> omega
      · rintro y ⟨p', pg, fr, hd, rfl, h9, h10, h11⟩
        refine ⟨⟨?_, ?_, ?_, ?_, rfl, ?_, ?_, ?_⟩, ?_⟩ <;> dsimp only <;> omega
    · refine (rest ⟨r.b, p⟩ rfl (by dsimp only; omega)).mono ?_
      rintro y ⟨p', pg, fr, hd, rfl, h9, h10, h11⟩
      refine ⟨⟨?_, ?_, ?_, ?_, rfl, ?_, ?_, ?_⟩, ?_⟩ <;> dsimp only <;> omega
  · dsimp only; refine ⟨?_, ?_, ?_, ?_, rfl, ?_, ?_, ?_⟩ <;> first | omega | (simp; omega)
  · dsimp only; omega
  rintro ⟨rb, p, pages, free, held⟩ ⟨h1, h2, h3, h4⟩
  dsimp only at h1 h2 h3 h4 ⊢
  subst h1
  unfold m_S_anySpace_k1
  refine ok.call (pick_ok N (by dsimp only; omega) (by dsimp only; omega) (by omega)) ?_
  rintro ⟨v, rd'⟩ ⟨hrd, hv1, hv2⟩
  dsimp only at hrd hv1 hv2 ⊢; subst hrd
  refine ok.ite (fun _ => ?_) fun _ => ok.ite (fun _ => ?_) fun _ => ok.ite (fun _ => ?_) fun _ => ?_
  · refine ok.call (one_ok N (by dsimp only; omega) (by dsimp only; omega) (by simp) (by simp)) ?_
    rintro ⟨v3, rd⟩ ⟨hrd, hv3⟩
    dsimp only at hrd hv3 ⊢; subst hrd
    exact ok.some ⟨⟨by dsimp only; omega, by dsimp only; omega⟩, rfl, by dsimp only; omega, by dsimp only; omega⟩
  · refine ok.app ⟨by simp; omega, by simp; omega⟩ (ok.call (spoil_ok (by dsimp only; omega) (by dsimp only; omega) (by simp; omega) _) ?_)
    rintro ⟨v3, rd⟩ ⟨hl, hb, hp⟩
    simp only [List.length_append, List.length_cons, List.length_nil] at hl
    dsimp only at hb hp
    exact ok.some ⟨⟨by dsimp only; omega, by dsimp only; omega⟩, hb, by dsimp only; omega, by dsimp only; omega⟩
  · refine ok.call (one_ok N (by dsimp only; omega) (by dsimp only; omega) (by simp) (by simp)) ?_
    rintro ⟨v3, rd⟩ ⟨hrd, hv3⟩
    dsimp only at hrd hv3 ⊢; subst hrd
    refine ok.call (one_ok N (by dsimp only; omega) (by dsimp only; omega) (by simp) (by simp)) ?_
    rintro ⟨v4, rd⟩ ⟨hrd, hv4⟩
    dsimp only at hrd hv4 ⊢; subst hrd
    refine ok.app ⟨by simp; omega, by simp; omega⟩ (ok.some ⟨⟨by dsimp only; omega, by simp; omega⟩, rfl, by dsimp only; omega, by dsimp only; omega⟩)
  · exact ok.some ⟨⟨by dsimp only; omega, by dsimp only; omega⟩, rfl, by dsimp only; omega, by dsimp only; omega⟩
theorem drawSpace_ok (l : List UInt8) : ok (m_S_DrawValidSpace N l) SmS := by
  unfold m_S_DrawValidSpace
  refine ok.call (newReader_ok N l) fun r hr => ok.call (anySpace_ok hN hr.1 hr.2) ?_
  rintro ⟨b, rd⟩ ⟨hb, _⟩
  exact ok.some hb
theorem drawPages_ok (l : List UInt8) : ok (m_S_DrawPagesInUse N l) SmS := by
  unfold m_S_DrawPagesInUse
  refine ok.call (newReader_ok N l) fun r hr => ok.call (anySpace_ok hN hr.1 hr.2) ?_
  rintro ⟨b, rd⟩ ⟨hb, _⟩
  exact ok.some hb
theorem drawTake_ok (l : List UInt8) : ok (m_S_DrawTakePage N l) SmS := by
  unfold m_S_DrawTakePage
  refine ok.call (newReader_ok N l) fun r hr => ok.call (anySpace_ok hN hr.1 hr.2) ?_
  rintro ⟨b, rd⟩ ⟨hb, _⟩
  exact ok.some hb
theorem drawHold_ok (l : List UInt8) : ok (m_S_DrawHoldPage N l) fun x => SmS x.1 ∧ -1 ≤ x.2.1 ∧ x.2.1 ≤ 16 ∧ 0 ≤ x.2.2 ∧ x.2.2 ≤ 10000 := by
  unfold m_S_DrawHoldPage
  refine ok.call (newReader_ok N l) fun r hr => ok.call (anySpace_ok hN hr.1 hr.2) ?_
  rintro ⟨b, rd⟩ ⟨hb, h1, h2, h3⟩
  dsimp only at hb h1 h2 h3 ⊢
  refine ok.call (one_ok N (by rw [h1]; omega) (by omega) (by decide) (by decide)) ?_
  rintro ⟨v3, rd⟩ ⟨hrd, hv3⟩
  dsimp only at hrd hv3 ⊢; subst hrd
  refine ok.call (one_ok N (by dsimp only; rw [h1]; omega) (by dsimp only; omega) (by decide) (by decide)) ?_
  rintro ⟨v4, rd⟩ ⟨hrd, hv4⟩
  dsimp only at hrd hv4 ⊢; subst hrd
  simp only [List.mem_cons, List.not_mem_nil, or_false] at hv3 hv4
  exact ok.some ⟨hb, by dsimp only; omega, by dsimp only; omega, by dsimp only; omega, by dsimp only; omega⟩
theorem drawRel_ok (l : List UInt8) : ok (m_S_DrawReleasePages N l) fun x => SmS x.1 ∧ -5 ≤ x.2 ∧ x.2 ≤ 100 := by
  unfold m_S_DrawReleasePages
  refine ok.call (newReader_ok N l) fun r hr => ok.call (anySpace_ok hN hr.1 hr.2) ?_
  rintro ⟨b, rd⟩ ⟨hb, h1, h2, h3⟩
  dsimp only at hb h1 h2 h3 ⊢
  refine ok.call (one_ok N (by rw [h1]; omega) (by omega) (by decide) (by decide)) ?_
  rintro ⟨v3, rd⟩ ⟨hrd, hv3⟩
  dsimp only at hrd hv3 ⊢; subst hrd
  simp only [List.mem_cons, List.not_mem_nil, or_false] at hv3
  exact ok.some ⟨hb, by dsimp only; omega, by dsimp only; omega⟩
theorem equalInts_eq {a b : List Int} (ha : a.length ≤ 4000000) : m_L_equalInts N a b = some (decide (a = b)) := by
  unfold m_L_equalInts
  by_cases hl : a.length = b.length
  case neg =>
    have : a ≠ b := fun e => hl (by rw [e])
    rw [decide_eq_false (by omega), cond_false]; simp [this]
  rw [decide_eq_true (by omega), cond_true]
  refine eqlist_ok (by omega) hl ?_ ?_ rfl
  · intro i h1 h2
    show m_L_equalInts_b1 N a b (i : Int) = _
    unfold m_L_equalInts_b1
    rw [decide_eq_true (show (i : Int) < (a.length : Int) by omega), cond_true, ixI_nat h1, ixI_nat h2]
    simp only [Option.bind_some]
    split
    · rename_i e; rw [decide_eq_true e, cond_true, chk_eq (by omega)]; rfl
    · rename_i e; rw [decide_eq_false e]; rfl
  · show m_L_equalInts_b1 N a b _ = _
    unfold m_L_equalInts_b1
    rw [decide_eq_false (by omega)]; rfl
theorem isInL {xs : List Int} (hl : xs.length ≤ 5000000) (n : Int) : m_L_isIn N xs n = some (decide (n ∈ xs)) := by
  unfold m_L_isIn
  refine isin_ok (by omega) (fun i hi => ?_) ?_ rfl
  · show m_L_isIn_b1 N xs n (i : Int) = _
    unfold m_L_isIn_b1
    rw [decide_eq_true (show (i : Int) < (xs.length : Int) by omega), cond_true, ixI_nat hi]
    simp only [Option.bind_some]
    split
    · rename_i e; rw [decide_eq_true e]; rfl
    · rename_i e; rw [decide_eq_false e, cond_false, chk_eq (by omega)]; rfl
  · show m_L_isIn_b1 N xs n _ = _
    unfold m_L_isIn_b1
    rw [decide_eq_false (by omega)]; rfl
end
end V
end Go.Proofs.Ytambkpacecjheaa
