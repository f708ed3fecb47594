/- Loops over an index, texts, truth values, as plain data. No condition. -/
import Derived.Test.YtaiifcnjmbpbjaaPlA
import Derived.Test.YtaiifcnjmbpbjaaFnEq
namespace Go.Proofs.Ytaiifcnjmbpbjaa
namespace V
set_option linter.unusedVariables false
set_option linter.unusedSimpArgs false
/-- An index runs up from i to n; I tells the state. -/
theorem ok.each {S β : Type} {body : S → Option (S ⊕ β)} (n : Nat) (I : Nat → S → Prop) (Q : β → Prop) (h : ∀ i s, i < n → I i s → ok (body s) fun y => match y with | .inl s' => I (i + 1) s' | .inr b => Q b)
    (he : ∀ s, I n s → ok (body s) fun y => match y with | .inl _ => False | .inr b => Q b) : ∀ (N i : Nat) (s : S), i ≤ n → I i s → n - i < N → ok (loopM body N s) Q := by
  intro N
  induction N with
  | zero => intro i s _ _ h; omega
  | succ N ih =>
    intro i s hi hs hN
    unfold loopM
    rcases Nat.lt_or_ge i n with hlt | hge
    · obtain ⟨y, e, hy⟩ := h i s hlt hs
      rw [e]
      cases y with
      | inl s' => exact ih (i + 1) s' hlt hy (by omega)
      | inr b => exact ⟨b, rfl, hy⟩
    · obtain rfl : i = n := by omega
      obtain ⟨y, e, hy⟩ := he s hs
      rw [e]
      cases y with
      | inl s' => exact hy.elim
      | inr b => exact ⟨b, rfl, hy⟩
theorem bool_eq {o : Option Bool} {p : Prop} [Decidable p] (h : ok o fun r => r = true ↔ p) : o = some (decide p) := by
  obtain ⟨r, e, hr⟩ := h
  rw [e]; congr 1
  by_cases hp : p
  · rw [decide_eq_true hp]; exact hr.2 hp
  · rw [decide_eq_false hp]; cases r
    · rfl
    · exact (hp (hr.1 rfl)).elim
theorem list_ext' {α : Type} {xs ys : List α} (h : xs.length = ys.length) (hh : ∀ i (h : i < xs.length) (h' : i < ys.length), xs[i] = ys[i]) : xs = ys := List.ext_getElem h hh
theorem empty_iff {x : ByteArray} : x = ByteArray.empty ↔ x.size = 0 := by
  constructor
  · intro h; rw [h]; rfl
  · intro h
    apply ByteArray.ext
    exact Array.eq_empty_of_size_eq_zero h
/-- A list is compared element by element. -/
theorem eqlist_ok {α : Type} [DecidableEq α] {N : Nat} {a b : List α} {body : Int → Option (Int ⊕ (Unit ⊕ Bool))} {k : Option Bool} (hN : a.length < N) (hl : a.length = b.length)
    (h : ∀ i (h1 : i < a.length) (h2 : i < b.length), body (i : Int) = if a[i] = b[i] then some (.inl ((i : Int) + 1)) else some (.inr (.inr false))) (he : body (a.length : Int) = some (.inr (.inl ()))) (hk : k = some true) :
    ((loopM body N (0 : Int)).bind fun o => match o with | .inl e => k | .inr v => some v) = some (decide (a = b)) := by
  refine bool_eq ?_
  refine ok.call (P := fun o => match o with | .inl _ => a = b | .inr v => v = false ∧ a ≠ b) (ok.each a.length (fun i s => s = (i : Int) ∧ ∀ k (h1 : k < a.length) (h2 : k < b.length), k < i → a[k] = b[k]) _ ?_ ?_ N 0 0 (Nat.zero_le _) ⟨rfl, fun k _ _ h => by omega⟩ (by omega)) ?_
  · rintro i s hi ⟨rfl, hg⟩
    rw [h i hi (by omega)]
    split
    · rename_i e
      exact ok.some ⟨by simp, fun k h1 h2 hk => by
        rcases Nat.lt_succ_iff_lt_or_eq.1 hk with h3 | h3
        · exact hg k h1 h2 h3
        · subst h3; exact e⟩
    · rename_i e
      exact ok.some ⟨rfl, fun h => by subst h; exact e rfl⟩
  · rintro s ⟨rfl, hg⟩
    rw [he]
    exact ok.some (list_ext' hl fun i h1 h2 => hg i h1 h2 h1)
  · rintro (u | r) h
    · rw [hk]; exact ok.some ⟨fun _ => h, fun _ => rfl⟩
    · exact ok.some (by simp [h.1, h.2])
end V
end Go.Proofs.Ytaiifcnjmbpbjaa
