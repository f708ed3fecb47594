/- Marks in nested data: written by one loop, found again by another. No condition. -/
import Derived.Test.YtaiifcnjmbpbjaaPlA
namespace Go.Proofs.Ytaiifcnjmbpbjaa
namespace V
set_option linter.unusedVariables false
set_option linter.unusedSimpArgs false
section
variable {α : Type} (mk : α → Int → α) (c : α → Nat)
/-- All elements marked, one after the other; c: how many numbers an element takes. -/
def cL : List α → Nat
  | [] => 0
  | x :: xs => c x + cL xs
def mkL : List α → Int → List α
  | [], _ => []
  | x :: xs, k => mk x k :: mkL xs (k + c x)
theorem mkL_len : ∀ (xs : List α) (k : Int), (mkL mk c xs k).length = xs.length
  | [], _ => rfl
  | x :: xs, k => by simp [mkL, mkL_len xs]
theorem cL_app : ∀ xs ys : List α, cL c (xs ++ ys) = cL c xs + cL c ys
  | [], ys => by simp [cL]
  | x :: xs, ys => by simp only [List.cons_append, cL, cL_app xs ys]; omega
theorem mkL_app : ∀ (xs ys : List α) (k : Int), mkL mk c (xs ++ ys) k = mkL mk c xs k ++ mkL mk c ys (k + cL c xs)
  | [], ys, k => by simp [mkL, cL]
  | x :: xs, ys, k => by simp only [List.cons_append, mkL, cL, mkL_app xs ys, Int.natCast_add, Int.add_assoc]
theorem take_succ' {xs : List α} {i : Nat} (h : i < xs.length) : xs.take (i + 1) = xs.take i ++ [xs[i]] := by rw [List.take_add_one, List.getElem?_eq_getElem h]; rfl
theorem cL_take {xs : List α} {i : Nat} (h : i < xs.length) : cL c (xs.take (i + 1)) = cL c (xs.take i) + c xs[i] := by rw [take_succ' h, cL_app]; simp [cL]
theorem cL_take_le (xs : List α) (i : Nat) : cL c (xs.take i) ≤ cL c xs := by
  have := cL_app c (xs.take i) (xs.drop i); rw [List.take_append_drop] at this; omega
theorem cL_const {m : Nat} (h : ∀ x, c x = m) : ∀ xs, cL c xs = m * xs.length
  | [] => by simp [cL]
  | x :: xs => by simp only [cL, h x, cL_const h xs, List.length_cons, Nat.mul_add]; omega
/-- The loop that marks. -/
theorem mark_loop {body : Int × Int × List α → Option ((Int × Int × List α) ⊕ (Int × List α))} {N : Nat} (xs : List α) (k0 : Int) (hN : xs.length < N)
    (h : ∀ (i : Nat) (hi : i < xs.length) (v : List α), v.length = xs.length → v[i]? = some xs[i] → body (k0 + cL c (xs.take i), (i : Int), v) = some (.inl (k0 + cL c (xs.take i) + c xs[i], (i : Int) + 1, v.set i (mk xs[i] (k0 + cL c (xs.take i))))))
    (he : ∀ (k : Int) (v : List α), v.length = xs.length → body (k, (xs.length : Int), v) = some (.inr (k, v))) :
    loopM body N (k0, 0, xs) = some (k0 + cL c xs, mkL mk c xs k0) := by
  have key := ok.loop (body := body) (fun s => ∃ i : Nat, i ≤ xs.length ∧ s = (k0 + cL c (xs.take i), (i : Int), mkL mk c (xs.take i) k0 ++ xs.drop i)) (fun s => ((xs.length : Int) - s.2.1).toNat) (fun r => r = (k0 + cL c xs, mkL mk c xs k0)) ?_ N (k0, 0, xs) ⟨0, Nat.zero_le _, by simp [cL, mkL]⟩ (by simp; omega)
  · obtain ⟨r, e, rfl⟩ := key; exact e
  rintro _ ⟨i, hi, rfl⟩
  have hl : (mkL mk c (xs.take i) k0 ++ xs.drop i).length = xs.length := by simp [mkL_len]; omega
  rcases Nat.lt_or_ge i xs.length with hlt | hge
  · refine ok.of (h i hlt _ hl ?_) ⟨⟨i + 1, hlt, ?_⟩, by simp; omega⟩
    · rw [List.getElem?_append_right (by simp [mkL_len]; exact Nat.min_le_left _ _)]; simp [mkL_len, Nat.min_eq_left hi, List.getElem?_eq_getElem hlt]
    · rw [cL_take c hlt, take_succ' hlt, mkL_app]
      refine Prod.ext (by simp; omega) (Prod.ext (by simp) ?_)
      show (mkL mk c (xs.take i) k0 ++ xs.drop i).set i _ = _
      rw [List.set_append_right _ _ (by simp [mkL_len]; exact Nat.min_le_left _ _)]
      simp only [mkL_len, List.length_take, Nat.min_eq_left hi, Nat.sub_self, List.append_assoc]
      congr 1
      rw [List.drop_eq_getElem_cons hlt, List.set_cons_zero]
      rfl
  · obtain rfl : i = xs.length := by omega
    refine ok.of (he _ _ hl) ?_
    simp
/-- The loop that finds the marks again. -/
theorem held_loop {γ : Type} {body : Int × Int → Option ((Int × Int) ⊕ (Int ⊕ γ))} {N : Nat} (xs : List α) (k0 : Int) (hN : xs.length < N)
    (h : ∀ (i : Nat) (hi : i < xs.length), (mkL mk c xs k0)[i]? = some (mk xs[i] (k0 + cL c (xs.take i))) → body (k0 + cL c (xs.take i), (i : Int)) = some (.inl (k0 + cL c (xs.take i) + c xs[i], (i : Int) + 1)))
    (he : ∀ k : Int, body (k, (xs.length : Int)) = some (.inr (.inl k))) :
    loopM body N (k0, 0) = some (.inl (k0 + cL c xs)) := by
  have key := ok.loop (body := body) (fun s => ∃ i : Nat, i ≤ xs.length ∧ s = (k0 + cL c (xs.take i), (i : Int))) (fun s => ((xs.length : Int) - s.2).toNat) (fun r => r = .inl (k0 + cL c xs)) ?_ N (k0, 0) ⟨0, Nat.zero_le _, by simp [cL]⟩ (by simp; omega)
  · obtain ⟨r, e, rfl⟩ := key; exact e
  rintro _ ⟨i, hi, rfl⟩
  rcases Nat.lt_or_ge i xs.length with hlt | hge
  · refine ok.of (h i hlt ?_) ⟨⟨i + 1, hlt, ?_⟩, by simp; omega⟩
    · conv => lhs; rw [← List.take_append_drop i xs]
      rw [mkL_app, List.getElem?_append_right (by simp [mkL_len]; exact Nat.min_le_left _ _)]
      simp only [mkL_len, List.length_take, Nat.min_eq_left hi, Nat.sub_self]
      rw [List.drop_eq_getElem_cons hlt]; rfl
    · rw [cL_take c hlt]
      refine Prod.ext (by simp; omega) (by simp)
  · obtain rfl : i = xs.length := by omega
    refine ok.of (he _) ?_
    simp
/-- A loop that copies element by element into a new slice. -/
theorem to_loop {β : Type} {body : Int × List β → Option ((Int × List β) ⊕ List β)} {N : Nat} (xs : List α) (f : α → β) (z : List β) (hz : z.length = xs.length) (hN : xs.length < N)
    (h : ∀ (i : Nat) (hi : i < xs.length) (v : List β), v.length = xs.length → body ((i : Int), v) = some (.inl ((i : Int) + 1, v.set i (f xs[i]))))
    (he : ∀ v : List β, body ((xs.length : Int), v) = some (.inr v)) : loopM body N (0, z) = some (xs.map f) := by
  have key := ok.loop (body := body) (fun s => ∃ i : Nat, i ≤ xs.length ∧ s = ((i : Int), (xs.map f).take i ++ z.drop i)) (fun s => ((xs.length : Int) - s.1).toNat) (fun r => r = xs.map f) ?_ N (0, z) ⟨0, Nat.zero_le _, by simp⟩ (by simp; omega)
  · obtain ⟨r, e, rfl⟩ := key; exact e
  rintro _ ⟨i, hi, rfl⟩
  have hl : ((xs.map f).take i ++ z.drop i).length = xs.length := by simp; omega
  rcases Nat.lt_or_ge i xs.length with hlt | hge
  · refine ok.of (h i hlt _ hl) ⟨⟨i + 1, hlt, ?_⟩, by simp; omega⟩
    refine Prod.ext (by simp) ?_
    show ((xs.map f).take i ++ z.drop i).set i _ = _
    rw [List.set_append_right _ _ (by simp; exact Nat.min_le_left _ _), take_succ' (by simpa using hlt)]
    simp only [List.length_take, List.length_map, Nat.min_eq_left hi, Nat.sub_self, List.append_assoc]
    congr 1
    rw [List.drop_eq_getElem_cons (show i < z.length by omega), List.set_cons_zero, List.getElem_map]
    rfl
  · obtain rfl : i = xs.length := by omega
    refine ok.of (he _) ?_
    rw [List.take_of_length_le (by simp), List.drop_of_length_le (by omega), List.append_nil]
end
end V
end Go.Proofs.Ytaiifcnjmbpbjaa
