/- More on loops over an index: the same asked of each; a member looked for; a filter; texts byte by byte. No condition. -/
import Derived.Test.YtaiifcnjmbpbjaaPlB
import Derived.Test.YtaiifcnjmbpbjaaGenB
namespace Go.Proofs.Ytaiifcnjmbpbjaa
namespace V
set_option linter.unusedVariables false
set_option linter.unusedSimpArgs false
set_option maxHeartbeats 1000000
section
variable {α β : Type}
theorem ok.ixA {n : Nat} {xs : List α} {i : Int} {f : α → Option β} {Q : β → Prop} (hl : xs.length = n) (h0 : 0 ≤ i) (h1 : i < n) (k : ∀ (m : Nat) (hm : m < xs.length), i = m → ok (f xs[m]) Q) : ok ((V.ixA n xs i).bind f) Q := by
  unfold V.ixA; rw [if_pos hl]; exact ok.ix h0 (by omega) k
theorem ok.arrM {n : Nat} {xs : List α} {f : List α → Option β} {Q : β → Prop} (hl : xs.length = n) (k : ok (f xs) Q) : ok ((V.arrM n xs).bind f) Q := by
  unfold V.arrM; rw [if_pos hl]; exact k
end
theorem allG {G : Nat → Prop} {i : Nat} (h : ∀ k, k < i → G k) (h1 : G i) : ∀ k, k < i + 1 → G k := fun k hk => by
  rcases Nat.lt_succ_iff_lt_or_eq.1 hk with h2 | h2
  · exact h k h2
  · subst h2; exact h1
theorem take_succ1 {α : Type} {xs : List α} {i : Nat} (h : i < xs.length) : xs.take (i + 1) = xs.take i ++ [xs[i]] := by rw [List.take_add_one, List.getElem?_eq_getElem h]; rfl
theorem mem_take_succ {α : Type} {xs : List α} {i : Nat} (h : i < xs.length) {y : α} : y ∈ xs.take (i + 1) ↔ y ∈ xs.take i ∨ y = xs[i] := by
  rw [take_succ1 h, List.mem_append, List.mem_singleton]
/-- A loop asks the same of each number. -/
theorem all_ok {body : Int → Option (Int ⊕ (Unit ⊕ Bool))} {N n : Nat} (d : Int) (G : Nat → Prop) (hN : n < N) (h : ∀ i, i < n → (∀ k, k < i → G k) → ok (body ((i : Int) + d)) fun y => (y = .inl ((i : Int) + d + 1) ∧ G i) ∨ (y = .inr (.inr false) ∧ ¬ G i)) (he : body ((n : Int) + d) = some (.inr (.inl ()))) :
    ok (loopM body N d) fun o => (o = .inl () ∧ ∀ k, k < n → G k) ∨ (o = .inr false ∧ ¬ ∀ k, k < n → G k) := by
  refine ok.each n (fun i s => s = (i : Int) + d ∧ ∀ k, k < i → G k) _ ?_ ?_ N 0 d (Nat.zero_le _) ⟨by simp, fun k h => by omega⟩ (by omega)
  · rintro i s hi ⟨rfl, hg⟩
    refine (h i hi hg).mono ?_
    rintro _ (⟨rfl, h1⟩ | ⟨rfl, h1⟩)
    · exact ⟨by simp; omega, allG hg h1⟩
    · exact .inr ⟨rfl, fun hh => h1 (hh i hi)⟩
  · rintro s ⟨rfl, hg⟩
    rw [he]
    exact ok.some (.inl ⟨rfl, hg⟩)
theorem isin_ok {N : Nat} {xs : List Int} {n : Int} {body : Int → Option (Int ⊕ (Unit ⊕ Bool))} {k : Option Bool} (hN : xs.length < N)
    (h : ∀ i (h1 : i < xs.length), body (i : Int) = if xs[i] = n then some (.inr (.inr true)) else some (.inl ((i : Int) + 1))) (he : body (xs.length : Int) = some (.inr (.inl ()))) (hk : k = some false) :
    ((loopM body N (0 : Int)).bind fun o => match o with | .inl e => k | .inr v => some v) = some (decide (n ∈ xs)) := by
  refine bool_eq ?_
  refine ok.call (P := fun o => match o with | .inl _ => n ∉ xs | .inr v => v = true ∧ n ∈ xs) (ok.each xs.length (fun i s => s = (i : Int) ∧ n ∉ xs.take i) _ ?_ ?_ N 0 0 (Nat.zero_le _) ⟨rfl, by simp⟩ (by omega)) ?_
  · rintro i s hi ⟨rfl, hg⟩
    rw [h i hi]
    split
    · rename_i e
      exact ok.some ⟨rfl, e ▸ List.getElem_mem hi⟩
    · rename_i e
      refine ok.some ⟨by simp, fun hh => ?_⟩
      rcases (mem_take_succ hi).1 hh with h1 | h1
      · exact hg h1
      · exact e h1.symm
  · rintro s ⟨rfl, hg⟩
    rw [he]
    rw [List.take_length] at hg
    exact ok.some hg
  · rintro (u | r) h
    · rw [hk]; exact ok.some ⟨fun e => (by cases e), fun e => (h e).elim⟩
    · exact ok.some (by simp [h.1, h.2])
/-- A filter that grows by one element. -/
theorem filt_take {α β : Type} (p : α → Bool) (f : α → β) {l : List α} {i : Nat} (h : i < l.length) : ((l.take (i + 1)).filter p).map f = ((l.take i).filter p).map f ++ (if p l[i] = true then [f l[i]] else []) := by
  rw [take_succ1 h, List.filter_append, List.map_append]
  by_cases hc : p l[i] = true <;> simp [hc]
theorem filt_len {α β : Type} (p : α → Bool) (f : α → β) (l : List α) : ((l.filter p).map f).length ≤ l.length := by rw [List.length_map]; exact List.length_filter_le _ _
theorem ixS_nat {u : ByteArray} {i : Nat} (h : i < u.size) : ixS u (i : Int) = some u[i] := by
  unfold ixS; rw [dif_pos ⟨by omega, by simpa using h⟩]; rfl
/-- All bytes of a text lie in a range. -/
def inR (lo hi : Int) (u : ByteArray) : Prop := ∀ i (h : i < u.size), lo ≤ (u[i].toNat : Int) ∧ (u[i].toNat : Int) ≤ hi
theorem text_ok {body : Int → Option (Int ⊕ (Unit ⊕ Bool))} {N : Nat} {u : ByteArray} (lo hi : Int) (hN : u.size < N) (hb : u.size ≤ 1000000000)
    (h : ∀ i (hi' : i < u.size), body (i : Int) = if lo ≤ (u[i].toNat : Int) ∧ (u[i].toNat : Int) ≤ hi then some (.inl ((i : Int) + 1)) else some (.inr (.inr false))) (he : body (u.size : Int) = some (.inr (.inl ()))) :
    ok (loopM body N 0) fun o => (o = .inl () ∧ inR lo hi u) ∨ (o = .inr false ∧ ¬ inR lo hi u) := by
  refine (all_ok (n := u.size) 0 (fun i => ∀ h : i < u.size, lo ≤ (u[i].toNat : Int) ∧ (u[i].toNat : Int) ≤ hi) hN ?_ ?_).mono ?_
  · intro i hi' _
    rw [Int.add_zero, h i hi']
    split
    · rename_i hc; exact ok.some (.inl ⟨rfl, fun _ => hc⟩)
    · rename_i hc; exact ok.some (.inr ⟨rfl, fun h => hc (h hi')⟩)
  · rw [Int.add_zero]; exact he
  · rintro o (⟨rfl, h⟩ | ⟨rfl, h⟩)
    · exact .inl ⟨rfl, fun i hi => h i hi hi⟩
    · exact .inr ⟨rfl, fun hh => h fun i hi h2 => hh i h2⟩
theorem inRange_of (a l h : Int) : (_root_.cond (decide (l ≤ a)) (some (decide (a ≤ h))) (some false)) = some (decide (l ≤ a ∧ a ≤ h)) := by
  by_cases h1 : l ≤ a <;> by_cases h2 : a ≤ h <;> simp [h1, h2]
end V
end Go.Proofs.Ytaiifcnjmbpbjaa
