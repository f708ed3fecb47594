/- What the functions of the space compute, in plain words. No condition. -/
import Derived.Test.YtambkpacecjheaaPlB
import Derived.Test.YtambkpacecjheaaSpAa
namespace Go.Proofs.Ytambkpacecjheaa
namespace V
set_option linter.unusedVariables false
set_option linter.unusedSimpArgs false
set_option maxHeartbeats 1000000
section
variable {α β : Type}
theorem ok.ixA {n : Nat} {xs : List α} {i : Int} {f : α → Option β} {Q : β → Prop} (hl : xs.length = n) (h0 : 0 ≤ i) (h1 : i < n) (k : ∀ (m : Nat) (hm : m < xs.length), i = m → ok (f xs[m]) Q) : ok ((V.ixA n xs i).bind f) Q := by
  unfold V.ixA; rw [if_pos hl]; exact ok.ix h0 (by omega) k
theorem ok.arrM {n : Nat} {xs : List α} {f : List α → Option β} {Q : β → Prop} (hl : xs.length = n) (k : ok (f xs) Q) : ok ((V.arrM n xs).bind f) Q := by
  unfold V.arrM; rw [if_pos hl]; exact k
end
/-- A sum over the first numbers. -/
def tot (f : Nat → Nat) : Nat → Nat
  | 0 => 0
  | n + 1 => tot f n + f n
theorem tot_add (f g : Nat → Nat) : ∀ n, tot (fun p => f p + g p) n = tot f n + tot g n
  | 0 => rfl
  | n + 1 => by simp only [tot, tot_add f g n]; omega
theorem tot_le {f g : Nat → Nat} : ∀ n, (∀ p, p < n → f p ≤ g p) → tot f n ≤ tot g n
  | 0, _ => Nat.le_refl _
  | n + 1, h => by have := tot_le n (fun p hp => h p (by omega)); have := h n (by omega); simp only [tot]; omega
theorem tot_congr {f g : Nat → Nat} : ∀ n, (∀ p, p < n → f p = g p) → tot f n = tot g n
  | 0, _ => rfl
  | n + 1, h => by simp only [tot, tot_congr n (fun p hp => h p (by omega)), h n (by omega)]
theorem tot_one : ∀ n, tot (fun _ => 1) n = n
  | 0 => rfl
  | n + 1 => by simp only [tot, tot_one n]
theorem tot_zero : ∀ n, tot (fun _ => 0) n = 0
  | 0 => rfl
  | n + 1 => by simp only [tot, tot_zero n]
theorem tot_ind (x : Int) : ∀ n : Nat, tot (fun p => if (p : Int) = x then 1 else 0) n = if 0 ≤ x ∧ x < n then 1 else 0
  | 0 => by simp only [tot]; rw [if_neg (by omega)]
  | n + 1 => by
    simp only [tot, tot_ind x n]
    by_cases h : (n : Int) = x
    · rw [if_neg (by omega), if_pos h, if_pos (by omega)]
    · rw [if_neg h]
      by_cases h2 : 0 ≤ x ∧ x < n
      · rw [if_pos h2, if_pos (by omega)]
      · rw [if_neg h2, if_neg (by omega)]
theorem tot_count (n : Nat) : ∀ xs : List Int, (∀ x ∈ xs, 0 ≤ x ∧ x < n) → tot (fun p => xs.count (p : Int)) n = xs.length
  | [], _ => by simp only [List.count_nil, List.length_nil]; exact tot_zero n
  | x :: xs, h => by
    have h1 := tot_count n xs fun y hy => h y (.tail _ hy)
    have h2 := h x (.head _)
    have h3 : tot (fun p => (x :: xs).count (p : Int)) n = tot (fun p => xs.count (p : Int) + if (p : Int) = x then 1 else 0) n := tot_congr n fun p _ => by
      rw [List.count_cons]
      congr 1
      by_cases h : (p : Int) = x
      · subst h; simp
      · rw [if_neg h, if_neg (by simp; exact fun e => h e.symm)]
    rw [h3, tot_add, h1, tot_ind, if_pos h2]; rfl
theorem nodup_len {n : Nat} {xs : List Int} (hd : xs.Nodup) (h : ∀ x ∈ xs, 0 ≤ x ∧ x < n) : xs.length ≤ n := by
  rw [← tot_count n xs h]
  have := tot_le (f := fun p => xs.count (p : Int)) (g := fun _ => 1) n fun p _ => List.nodup_iff_count.1 hd _
  rw [tot_one] at this; exact this
/-- What holds of a free page. -/
def gF (s : I_Space) (k : Nat) : Prop := ∀ x, s.free[k]? = some x → 0 ≤ x ∧ x < s.pages ∧ ∀ y, 0 < k → s.free[k - 1]? = some y → y < x
/-- What holds of a held page. -/
def gH (s : I_Space) (k : Nat) : Prop := ∀ x, s.held[k]? = some x → 0 ≤ x.page ∧ x.page < s.pages ∧ x.page ∉ s.free ∧ (∀ y ∈ s.held.take k, y.page ≠ x.page) ∧ 0 ≤ x.since ∧ x.since ≤ 9999 ∧ ∀ y, 0 < k → s.held[k - 1]? = some y → y.since ≤ x.since
/-- A space that is valid. -/
structure vS (s : I_Space) : Prop where
  lo : 0 ≤ s.pages
  hi : s.pages ≤ 16
  fr : ∀ k, gF s k
  hd : ∀ k, gH s k
noncomputable instance (s : I_Space) : Decidable (vS s) := Classical.propDecidable _
/-- A page in use. -/
def usd (s : I_Space) (p : Int) : Prop := 0 ≤ p ∧ p < s.pages ∧ p ∉ s.free ∧ ∀ h ∈ s.held, h.page ≠ p
noncomputable instance (s : I_Space) (p : Int) : Decidable (usd s p) := Classical.propDecidable _
theorem vS.mem {s : I_Space} (h : vS s) {x : Int} (hx : x ∈ s.free) : 0 ≤ x ∧ x < s.pages := by
  obtain ⟨k, hk⟩ := List.mem_iff_getElem?.1 hx
  exact ⟨(h.fr k x hk).1, (h.fr k x hk).2.1⟩
theorem vS.memH {s : I_Space} (h : vS s) {x : I_Hold} (hx : x ∈ s.held) : 0 ≤ x.page ∧ x.page < s.pages ∧ x.page ∉ s.free ∧ 0 ≤ x.since ∧ x.since ≤ 9999 := by
  obtain ⟨k, hk⟩ := List.mem_iff_getElem?.1 hx
  obtain ⟨h1, h2, h3, _, h4, h5, _⟩ := h.hd k x hk
  exact ⟨h1, h2, h3, h4, h5⟩
theorem asc_lt {xs : List Int} (h : ∀ k x y, xs[k]? = some x → xs[k + 1]? = some y → x < y) : ∀ (d i : Nat) (x y : Int), xs[i]? = some x → xs[i + d + 1]? = some y → x < y
  | 0, i, x, y, h1, h2 => h i x y h1 h2
  | d + 1, i, x, y, h1, h2 => by
    obtain ⟨h3, _⟩ := List.getElem?_eq_some_iff.1 h2
    have h4 : xs[i + d + 1]? = some xs[i + d + 1] := List.getElem?_eq_getElem (by omega)
    exact Int.lt_trans (asc_lt h d i x _ h1 h4) (h _ _ _ h4 h2)
theorem vS.asc {s : I_Space} (h : vS s) : s.free.Pairwise (· < ·) := by
  rw [List.pairwise_iff_getElem]
  intro i j hi hj hij
  obtain ⟨d, rfl⟩ : ∃ d, j = i + d + 1 := ⟨j - i - 1, by omega⟩
  exact asc_lt (fun k x y h1 h2 => (h.fr (k + 1) y h2).2.2 x (by omega) (by simpa using h1)) d i _ _ (List.getElem?_eq_getElem hi) (List.getElem?_eq_getElem hj)
theorem vS.ndF {s : I_Space} (h : vS s) : s.free.Nodup := h.asc.imp fun h => by omega
theorem vS.ndH {s : I_Space} (h : vS s) : (s.held.map I_Hold.page).Nodup := by
  rw [List.Nodup, List.pairwise_iff_getElem]
  intro i j hi hj hij
  simp only [List.length_map] at hi hj
  simp only [List.getElem_map]
  exact (h.hd j _ (List.getElem?_eq_getElem hj)).2.2.2.1 _ (List.mem_iff_getElem.2 ⟨i, by simp; omega, by simp⟩)
theorem vS.lenF {s : I_Space} (h : vS s) : s.free.length ≤ 16 := by
  have h1 := nodup_len (n := s.pages.toNat) h.ndF fun x hx => by have := h.mem hx; omega
  have := h.hi; omega
theorem vS.lenH {s : I_Space} (h : vS s) : s.held.length ≤ 16 := by
  have h1 := nodup_len (n := s.pages.toNat) h.ndH fun x hx => by
    obtain ⟨y, hy, rfl⟩ := List.mem_map.1 hx
    have := h.memH hy; omega
  rw [List.length_map] at h1
  have := h.hi; omega
theorem vS.of {s : I_Space} (h1 : 0 ≤ s.pages) (h2 : s.pages ≤ 16) (h3 : ∀ k, k < s.free.length → gF s k) (h4 : ∀ k, k < s.held.length → gH s k) : vS s := by
  refine ⟨h1, h2, fun k => ?_, fun k => ?_⟩
  · by_cases h : k < s.free.length
    · exact h3 k h
    · intro x hx; rw [List.getElem?_eq_none (by omega)] at hx; cases hx
  · by_cases h : k < s.held.length
    · exact h4 k h
    · intro x hx; rw [List.getElem?_eq_none (by omega)] at hx; cases hx
theorem allG {G : Nat → Prop} {i : Nat} (h : ∀ k, k < i → G k) (h1 : G i) : ∀ k, k < i + 1 → G k := fun k hk => by
  rcases Nat.lt_succ_iff_lt_or_eq.1 hk with h2 | h2
  · exact h k h2
  · subst h2; exact h1
/-- A table tells what holds of each number below 16. -/
def Ub (v : List Bool) (P : Int → Prop) : Prop := v.length = 16 ∧ ∀ (p : Nat) (h : p < v.length), (v[p] = true ↔ P p)
theorem Ub.congr {v : List Bool} {P P' : Int → Prop} (h : Ub v P) (hp : ∀ p : Nat, p < 16 → (P p ↔ P' p)) : Ub v P' := ⟨h.1, fun p hq => (h.2 p hq).trans (hp p (by have := h.1; omega))⟩
theorem Ub.set {v : List Bool} {P P' : Int → Prop} (h : Ub v P) (n : Nat) (b : Bool) (hp : ∀ p : Nat, p < 16 → (P' p ↔ if p = n then b = true else P p)) : Ub (v.set n b) P' := by
  refine ⟨by simpa using h.1, fun p hq => ?_⟩
  simp only [List.length_set] at hq
  rw [hp p (by have := h.1; omega), List.getElem_set]
  by_cases h1 : p = n
  · subst h1; simp
  · rw [if_neg h1, if_neg (fun e => h1 e.symm)]; exact h.2 p hq
theorem take_succ1 {α : Type} {xs : List α} {i : Nat} (h : i < xs.length) : xs.take (i + 1) = xs.take i ++ [xs[i]] := by rw [List.take_add_one, List.getElem?_eq_getElem h]; rfl
theorem mem_take_succ {α : Type} {xs : List α} {i : Nat} (h : i < xs.length) {y : α} : y ∈ xs.take (i + 1) ↔ y ∈ xs.take i ∨ y = xs[i] := by
  rw [take_succ1 h, List.mem_append, List.mem_singleton]
def Pf (s : I_Space) : (List Bool) ⊕ ((List Bool) × Bool) → Prop
  | .inl v => Ub v (fun p => p < s.pages ∧ p ∉ s.free) ∧ ∀ k, k < s.free.length → gF s k
  | .inr r => r.1.length = 16 ∧ r.2 = false ∧ ¬ vS s
def Ph (s : I_Space) : (List Bool) ⊕ ((List Bool) × Bool) → Prop
  | .inl v => Ub v (usd s) ∧ ∀ k, k < s.held.length → gH s k
  | .inr r => r.1.length = 16 ∧ r.2 = false ∧ ¬ vS s
section
variable {N : Nat} (hN : 100000000 ≤ N)
include hN
theorem inUse_ok {s : I_Space} (hf : s.free.length ≤ 5000000) (hh : s.held.length ≤ 5000000) : ok (m_I_Space_inUse N s) fun r => r.1.length = 16 ∧ (r.2 = true ↔ vS s) ∧ (r.2 = true → Ub r.1 (usd s)) := by
  unfold m_I_Space_inUse
  refine ok.ite (fun hc => ?_) fun hlo => ?_
  · repeat' (first | (with_reducible refine ok.some ?_) | (with_reducible refine ok.arrM (by decide) ?_) | (with_reducible refine ok.ite (fun hc => ?_) (fun hc => ?_)) | (with_reducible refine ok.cond (fun hc => ?_) (fun hc => ?_)) | (with_reducible refine ok.chk (by omega) ?_) | (with_reducible refine ok.bs ?_) | (with_reducible refine ok.remM (by omega) (fun _ hq => ?_)) | (with_reducible refine ok.quoM (by omega) (fun _ hq => ?_)) | (with_reducible refine ok.ix (by omega) (by omega) (fun q hq he => ?_)))
    exact ⟨rfl, ⟨fun h => (by cases h), fun h : vS s => by have := h.lo; omega⟩, fun h => by cases h⟩
  refine ok.ite (fun hc => ?_) fun hhi => ?_
  · repeat' (first | (with_reducible refine ok.some ?_) | (with_reducible refine ok.arrM (by decide) ?_) | (with_reducible refine ok.ite (fun hc => ?_) (fun hc => ?_)) | (with_reducible refine ok.cond (fun hc => ?_) (fun hc => ?_)) | (with_reducible refine ok.chk (by omega) ?_) | (with_reducible refine ok.bs ?_) | (with_reducible refine ok.remM (by omega) (fun _ hq => ?_)) | (with_reducible refine ok.quoM (by omega) (fun _ hq => ?_)) | (with_reducible refine ok.ix (by omega) (by omega) (fun q hq he => ?_)))
    exact ⟨rfl, ⟨fun h => (by cases h), fun h : vS s => by have := h.hi; omega⟩, fun h => by cases h⟩
  refine ok.call (ok.each s.pages.toNat (fun i st => st.1 = (i : Int) ∧ Ub st.2 (fun p => p < i)) (fun v => Ub v (fun p => p < s.pages)) ?_ ?_ N 0 _ (Nat.zero_le _) ⟨rfl, by decide, ?_⟩ (by omega)) fun v1 h1 => ?_
  · rintro i ⟨j, v⟩ hi ⟨rfl, hv⟩
    have hl := hv.1
    dsimp only at hl
    unfold m_I_Space_inUse_b1
    repeat' (first | (with_reducible refine ok.some ?_) | (with_reducible refine ok.ixA (by assumption) (by omega) (by omega) (fun q hq he => ?_)) | (with_reducible refine ok.ite (fun hc => ?_) (fun hc => ?_)) | (with_reducible refine ok.cond (fun hc => ?_) (fun hc => ?_)) | (with_reducible refine ok.chk (by omega) ?_) | (with_reducible refine ok.bs ?_) | (with_reducible refine ok.remM (by omega) (fun _ hq => ?_)) | (with_reducible refine ok.quoM (by omega) (fun _ hq => ?_)) | (with_reducible refine ok.ix (by omega) (by omega) (fun q hq he => ?_)))
    · refine ⟨by simp, hv.set i true fun p hp => ?_⟩
      by_cases h : p = i
      · subst h; simp; omega
      · rw [if_neg h]; omega
    · omega
  · rintro ⟨j, v⟩ ⟨rfl, hv⟩
    unfold m_I_Space_inUse_b1
    repeat' (first | (with_reducible refine ok.some ?_) | (with_reducible refine ok.iff (by omega) ?_) | (with_reducible refine ok.ite (fun hc => ?_) (fun hc => ?_)) | (with_reducible refine ok.cond (fun hc => ?_) (fun hc => ?_)) | (with_reducible refine ok.chk (by omega) ?_) | (with_reducible refine ok.bs ?_) | (with_reducible refine ok.remM (by omega) (fun _ hq => ?_)) | (with_reducible refine ok.quoM (by omega) (fun _ hq => ?_)) | (with_reducible refine ok.ix (by omega) (by omega) (fun q hq he => ?_)))
    exact hv.congr fun p _ => by omega
  · intro p hp
    have : ([false, false, false, false, false, false, false, false, false, false, false, false, false, false, false, false] : List Bool)[p] = false := by
      have : ∀ b ∈ ([false, false, false, false, false, false, false, false, false, false, false, false, false, false, false, false] : List Bool), b = false := by decide
      exact this _ (List.getElem_mem _)
    dsimp only at this ⊢
    rw [this]; simp
  unfold m_I_Space_inUse_k1
  refine ok.call (P := Pf s) (ok.each s.free.length (fun i st => st.1 = (i : Int) ∧ Ub st.2 (fun p => p < s.pages ∧ p ∉ s.free.take i) ∧ ∀ k, k < i → gF s k) _ ?_ ?_ N 0 _ (Nat.zero_le _) ⟨rfl, by simpa using h1, fun k h => by omega⟩ (by omega)) ?_
  · rintro i ⟨j, v⟩ hi ⟨rfl, hv, hg⟩
    have hl := hv.1
    have hx := List.getElem?_eq_getElem hi
    dsimp only at hl
    unfold m_I_Space_inUse_b2
    refine ok.ift (by omega) (ok.eq (ixI_nat hi) ?_)
    have good : gF s i → ok ((V.ixA 16 v s.free[i]).bind fun _ => (chk ((i : Int) + 1)).bind fun n => some (.inl (n, v.set s.free[i].toNat false))) (fun y : (Int × (List Bool)) ⊕ ((List Bool) ⊕ ((List Bool) × Bool)) => y = .inl ((i : Int) + 1, v.set s.free[i].toNat false)) := fun hgi => ok.ixA hl (hgi _ hx).1 (by have := hgi _ hx; omega) fun q hq he => ok.chk (by omega) (ok.some rfl)
    have fin : gF s i → (i : Int) + 1 = ((i + 1 : Nat) : Int) ∧ Ub (v.set s.free[i].toNat false) (fun p => p < s.pages ∧ p ∉ s.free.take (i + 1)) ∧ ∀ k, k < i + 1 → gF s k := by
      intro hgi
      have hb := hgi _ hx
      refine ⟨by simp, hv.set _ _ fun p hp => ?_, allG hg hgi⟩
      rw [mem_take_succ hi]
      by_cases h : p = s.free[i].toNat
      · rw [if_pos h]
        have : (p : Int) = s.free[i] := by omega
        simp [this]
      · rw [if_neg h]
        have : ¬ (p : Int) = s.free[i] := by omega
        simp [this]
    refine ok.ite (fun hc => ?_) fun ha => ?_
    · repeat' (first | (with_reducible refine ok.some ?_) | (with_reducible refine ok.arrM (by first | assumption | decide) ?_) | (fail) | (with_reducible refine ok.ite (fun hc => ?_) (fun hc => ?_)) | (with_reducible refine ok.cond (fun hc => ?_) (fun hc => ?_)) | (with_reducible refine ok.chk (by omega) ?_) | (with_reducible refine ok.bs ?_) | (with_reducible refine ok.remM (by omega) (fun _ hq => ?_)) | (with_reducible refine ok.quoM (by omega) (fun _ hq => ?_)) | (with_reducible refine ok.ix (by omega) (by omega) (fun q hq he => ?_)))
      exact ⟨hl, rfl, fun h => by have := h.fr i _ hx; omega⟩
    refine ok.ite (fun hc => ?_) fun hb => ?_
    · repeat' (first | (with_reducible refine ok.some ?_) | (with_reducible refine ok.arrM (by first | assumption | decide) ?_) | (fail) | (with_reducible refine ok.ite (fun hc => ?_) (fun hc => ?_)) | (with_reducible refine ok.cond (fun hc => ?_) (fun hc => ?_)) | (with_reducible refine ok.chk (by omega) ?_) | (with_reducible refine ok.bs ?_) | (with_reducible refine ok.remM (by omega) (fun _ hq => ?_)) | (with_reducible refine ok.quoM (by omega) (fun _ hq => ?_)) | (with_reducible refine ok.ix (by omega) (by omega) (fun q hq he => ?_)))
      exact ⟨hl, rfl, fun h => by have := h.fr i _ hx; omega⟩
    refine ok.ite (fun h0 => ?_) fun h0 => ?_
    · refine ok.chk (by omega) (ok.ix (by omega) (by omega) fun q hq he => ?_)
      obtain rfl : i = q + 1 := by omega
      have hy := List.getElem?_eq_getElem hq
      refine ok.ite (fun hc => ?_) fun hc => ?_
      · repeat' (first | (with_reducible refine ok.some ?_) | (with_reducible refine ok.arrM (by first | assumption | decide) ?_) | (fail) | (with_reducible refine ok.ite (fun hc => ?_) (fun hc => ?_)) | (with_reducible refine ok.cond (fun hc => ?_) (fun hc => ?_)) | (with_reducible refine ok.chk (by omega) ?_) | (with_reducible refine ok.bs ?_) | (with_reducible refine ok.remM (by omega) (fun _ hq => ?_)) | (with_reducible refine ok.quoM (by omega) (fun _ hq => ?_)) | (with_reducible refine ok.ix (by omega) (by omega) (fun q hq he => ?_)))
        exact ⟨hl, rfl, fun h => by have := (h.fr _ _ hx).2.2 _ (by omega) hy; omega⟩
      · refine (fun hgi => (good hgi).mono (fun y hy => by subst hy; exact fin hgi)) fun x hx' => ?_
        obtain rfl : s.free[q + 1] = x := by rw [hx] at hx'; exact Option.some.inj hx'
        refine ⟨by omega, by omega, fun y _ hy' => ?_⟩
        simp only [Nat.add_sub_cancel] at hy'
        obtain rfl : s.free[q] = y := by rw [hy] at hy'; exact Option.some.inj hy'
        omega
    · refine (fun hgi => (good hgi).mono (fun y hy => by subst hy; exact fin hgi)) fun x hx' => ?_
      obtain rfl : s.free[i] = x := by rw [hx] at hx'; exact Option.some.inj hx'
      exact ⟨by omega, by omega, fun y h => by omega⟩
  · rintro ⟨j, v⟩ ⟨rfl, hv, hg⟩
    unfold m_I_Space_inUse_b2
    dsimp only
    refine ok.iff (by omega) (ok.some ⟨?_, hg⟩)
    rw [List.take_length] at hv; exact hv
  rintro (v | r) h2
  case inr =>
    exact ok.some ⟨h2.1, ⟨fun h => (by rw [h2.2.1] at h; cases h), fun h => (h2.2.2 h).elim⟩, fun h => by rw [h2.2.1] at h; cases h⟩
  obtain ⟨h2, hF⟩ := h2
  have hmF : ∀ x ∈ s.free, 0 ≤ x ∧ x < s.pages := fun x hx => by
    obtain ⟨k, hk⟩ := List.mem_iff_getElem?.1 hx
    have h := hF k (List.getElem?_eq_some_iff.1 hk).1 x hk
    exact ⟨h.1, h.2.1⟩
  unfold m_I_Space_inUse_k2
  refine ok.call (P := Ph s) (ok.each s.held.length (fun i st => st.1 = (i : Int) ∧ Ub st.2 (fun p => p < s.pages ∧ p ∉ s.free ∧ ∀ h ∈ s.held.take i, h.page ≠ p) ∧ ∀ k, k < i → gH s k) _ ?_ ?_ N 0 _ (Nat.zero_le _) ⟨rfl, by simpa using h2, fun k h => by omega⟩ (by omega)) ?_
  · rintro i ⟨j, v⟩ hi ⟨rfl, hv, hg⟩
    have hl := hv.1
    have hx := List.getElem?_eq_getElem hi
    dsimp only at hl hv
    unfold m_I_Space_inUse_b3
    refine ok.ift (by omega) (ok.eq (ixI_nat hi) ?_)
    have good : gH s i → ok ((V.ixA 16 v s.held[i].page).bind fun _ => (chk ((i : Int) + 1)).bind fun n => some (.inl (n, v.set s.held[i].page.toNat false))) (fun y : (Int × (List Bool)) ⊕ ((List Bool) ⊕ ((List Bool) × Bool)) => y = .inl ((i : Int) + 1, v.set s.held[i].page.toNat false)) := fun hgi => ok.ixA hl (hgi _ hx).1 (by have := hgi _ hx; omega) fun q hq he => ok.chk (by omega) (ok.some rfl)
    have fin : gH s i → (i : Int) + 1 = ((i + 1 : Nat) : Int) ∧ Ub (v.set s.held[i].page.toNat false) (fun p => p < s.pages ∧ p ∉ s.free ∧ ∀ h ∈ s.held.take (i + 1), h.page ≠ p) ∧ ∀ k, k < i + 1 → gH s k := by
      intro hgi
      have hb := hgi _ hx
      refine ⟨by simp, hv.set _ _ fun p hp => ?_, allG hg hgi⟩
      by_cases h : p = s.held[i].page.toNat
      · rw [if_pos h]
        have : s.held[i].page = (p : Int) := by omega
        simp only [Bool.false_eq_true, iff_false]
        exact fun hh => hh.2.2 _ ((mem_take_succ hi).2 (.inr rfl)) this
      · rw [if_neg h]
        have : ¬ s.held[i].page = (p : Int) := by omega
        refine and_congr_right fun _ => and_congr_right fun _ => ⟨fun h y hy => h y ((mem_take_succ hi).2 (.inl hy)), fun h y hy => ?_⟩
        rcases (mem_take_succ hi).1 hy with h3 | rfl
        · exact h y h3
        · exact this
    refine ok.ite (fun hc => ?_) fun ha => ?_
    · repeat' (first | (with_reducible refine ok.some ?_) | (with_reducible refine ok.arrM (by first | assumption | decide) ?_) | (fail) | (with_reducible refine ok.ite (fun hc => ?_) (fun hc => ?_)) | (with_reducible refine ok.cond (fun hc => ?_) (fun hc => ?_)) | (with_reducible refine ok.chk (by omega) ?_) | (with_reducible refine ok.bs ?_) | (with_reducible refine ok.remM (by omega) (fun _ hq => ?_)) | (with_reducible refine ok.quoM (by omega) (fun _ hq => ?_)) | (with_reducible refine ok.ix (by omega) (by omega) (fun q hq he => ?_)))
      exact ⟨hl, rfl, fun h => by have := h.hd i _ hx; omega⟩
    refine ok.ite (fun hc => ?_) fun hb => ?_
    · repeat' (first | (with_reducible refine ok.some ?_) | (with_reducible refine ok.arrM (by first | assumption | decide) ?_) | (fail) | (with_reducible refine ok.ite (fun hc => ?_) (fun hc => ?_)) | (with_reducible refine ok.cond (fun hc => ?_) (fun hc => ?_)) | (with_reducible refine ok.chk (by omega) ?_) | (with_reducible refine ok.bs ?_) | (with_reducible refine ok.remM (by omega) (fun _ hq => ?_)) | (with_reducible refine ok.quoM (by omega) (fun _ hq => ?_)) | (with_reducible refine ok.ix (by omega) (by omega) (fun q hq he => ?_)))
      exact ⟨hl, rfl, fun h => by have := h.hd i _ hx; omega⟩
    refine ok.ixA hl (by omega) (by omega) fun q hq he => ?_
    have hU := hv.2 q hq
    rw [← he] at hU
    refine ok.cond (fun hc => ?_) fun hc => ?_
    case refine_2 =>
      repeat' (first | (with_reducible refine ok.some ?_) | (with_reducible refine ok.arrM (by first | assumption | decide) ?_) | (fail) | (with_reducible refine ok.ite (fun hc => ?_) (fun hc => ?_)) | (with_reducible refine ok.cond (fun hc => ?_) (fun hc => ?_)) | (with_reducible refine ok.chk (by omega) ?_) | (with_reducible refine ok.bs ?_) | (with_reducible refine ok.remM (by omega) (fun _ hq => ?_)) | (with_reducible refine ok.quoM (by omega) (fun _ hq => ?_)) | (with_reducible refine ok.ix (by omega) (by omega) (fun q hq he => ?_)))
      refine ⟨hl, rfl, fun h => ?_⟩
      have h3 := h.hd i _ hx
      rw [hU.2 ⟨by omega, h3.2.2.1, h3.2.2.2.1⟩] at hc
      cases hc
    have hU := hU.1 hc
    refine ok.ite (fun hc => ?_) fun hs1 => ?_
    · repeat' (first | (with_reducible refine ok.some ?_) | (with_reducible refine ok.arrM (by first | assumption | decide) ?_) | (fail) | (with_reducible refine ok.ite (fun hc => ?_) (fun hc => ?_)) | (with_reducible refine ok.cond (fun hc => ?_) (fun hc => ?_)) | (with_reducible refine ok.chk (by omega) ?_) | (with_reducible refine ok.bs ?_) | (with_reducible refine ok.remM (by omega) (fun _ hq => ?_)) | (with_reducible refine ok.quoM (by omega) (fun _ hq => ?_)) | (with_reducible refine ok.ix (by omega) (by omega) (fun q hq he => ?_)))
      exact ⟨hl, rfl, fun h => by have := (h.hd i _ hx).2.2.2.2.1; omega⟩
    refine ok.ite (fun hc => ?_) fun hs2 => ?_
    · repeat' (first | (with_reducible refine ok.some ?_) | (with_reducible refine ok.arrM (by first | assumption | decide) ?_) | (fail) | (with_reducible refine ok.ite (fun hc => ?_) (fun hc => ?_)) | (with_reducible refine ok.cond (fun hc => ?_) (fun hc => ?_)) | (with_reducible refine ok.chk (by omega) ?_) | (with_reducible refine ok.bs ?_) | (with_reducible refine ok.remM (by omega) (fun _ hq => ?_)) | (with_reducible refine ok.quoM (by omega) (fun _ hq => ?_)) | (with_reducible refine ok.ix (by omega) (by omega) (fun q hq he => ?_)))
      exact ⟨hl, rfl, fun h => by have := (h.hd i _ hx).2.2.2.2.2.1; omega⟩
    refine ok.ite (fun h0 => ?_) fun h0 => ?_
    · refine ok.chk (by omega) (ok.ix (by omega) (by omega) fun q' hq' he' => ?_)
      obtain rfl : i = q' + 1 := by omega
      have hy := List.getElem?_eq_getElem hq'
      refine ok.ite (fun hc => ?_) fun hc => ?_
      · repeat' (first | (with_reducible refine ok.some ?_) | (with_reducible refine ok.arrM (by first | assumption | decide) ?_) | (fail) | (with_reducible refine ok.ite (fun hc => ?_) (fun hc => ?_)) | (with_reducible refine ok.cond (fun hc => ?_) (fun hc => ?_)) | (with_reducible refine ok.chk (by omega) ?_) | (with_reducible refine ok.bs ?_) | (with_reducible refine ok.remM (by omega) (fun _ hq => ?_)) | (with_reducible refine ok.quoM (by omega) (fun _ hq => ?_)) | (with_reducible refine ok.ix (by omega) (by omega) (fun q hq he => ?_)))
        exact ⟨hl, rfl, fun h => by have := (h.hd _ _ hx).2.2.2.2.2.2 _ (by omega) hy; omega⟩
      · refine (fun hgi => (good hgi).mono (fun y hy => by subst hy; exact fin hgi)) fun x hx' => ?_
        obtain rfl : s.held[q' + 1] = x := by rw [hx] at hx'; exact Option.some.inj hx'
        refine ⟨by omega, by omega, hU.2.1, hU.2.2, by omega, by omega, fun y _ hy' => ?_⟩
        simp only [Nat.add_sub_cancel] at hy'
        obtain rfl : s.held[q'] = y := by rw [hy] at hy'; exact Option.some.inj hy'
        omega
    · refine (fun hgi => (good hgi).mono (fun y hy => by subst hy; exact fin hgi)) fun x hx' => ?_
      obtain rfl : s.held[i] = x := by rw [hx] at hx'; exact Option.some.inj hx'
      exact ⟨by omega, by omega, hU.2.1, hU.2.2, by omega, by omega, fun y h => by omega⟩
  · rintro ⟨j, v⟩ ⟨rfl, hv, hg⟩
    unfold m_I_Space_inUse_b3
    dsimp only at hv ⊢
    refine ok.iff (by omega) (ok.some ⟨?_, hg⟩)
    rw [List.take_length] at hv
    exact hv.congr fun p _ => ⟨fun h => ⟨by omega, h.1, h.2.1, h.2.2⟩, fun h => ⟨h.2.1, h.2.2.1, h.2.2.2⟩⟩
  rintro (v | r) h3
  · unfold m_I_Space_inUse_k3
    have hl := h3.1.1
    repeat' (first | (with_reducible refine ok.some ?_) | (with_reducible refine ok.arrM (by first | assumption | decide) ?_) | (with_reducible refine ok.ite (fun hc => ?_) (fun hc => ?_)) | (with_reducible refine ok.cond (fun hc => ?_) (fun hc => ?_)) | (with_reducible refine ok.chk (by omega) ?_) | (with_reducible refine ok.bs ?_) | (with_reducible refine ok.remM (by omega) (fun _ hq => ?_)) | (with_reducible refine ok.quoM (by omega) (fun _ hq => ?_)) | (with_reducible refine ok.ix (by omega) (by omega) (fun q hq he => ?_)))
    exact ⟨hl, ⟨fun _ => .of (by omega) (by omega) hF h3.2, fun _ => rfl⟩, fun _ => h3.1⟩
  · exact ok.some ⟨h3.1, ⟨fun h => (by rw [h3.2.1] at h; cases h), fun h => (h3.2.2 h).elim⟩, fun h => by rw [h3.2.1] at h; cases h⟩
end
end V
end Go.Proofs.Ytambkpacecjheaa
