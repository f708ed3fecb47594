/- A calculus for functions of plain data that may lack a result. No condition. -/
import Derived.Test.YtaiifcnjmbpbjaaGenA
namespace Go.Proofs.Ytaiifcnjmbpbjaa
namespace V
set_option linter.unusedVariables false
set_option linter.unusedSimpArgs false
section
variable {α β : Type}
/-- There is a result, and it is as told. -/
def ok (o : Option α) (Q : α → Prop) : Prop := ∃ r, o = some r ∧ Q r
theorem ok.some {Q : α → Prop} {r : α} (h : Q r) : ok (some r) Q := ⟨r, rfl, h⟩
theorem ok.of {o : Option α} {Q : α → Prop} {r : α} (e : o = Option.some r) (h : Q r) : ok o Q := ⟨r, e, h⟩
theorem ok.mono {o : Option α} {P Q : α → Prop} (h : ok o P) (hq : ∀ r, P r → Q r) : ok o Q := h.elim fun r h => ⟨r, h.1, hq r h.2⟩
theorem ok.call {o : Option α} {f : α → Option β} {P : α → Prop} {Q : β → Prop} (h : ok o P) (k : ∀ x, P x → ok (f x) Q) : ok (o.bind f) Q := by
  obtain ⟨r, e, hp⟩ := h; subst e; exact k r hp
theorem ok.eq {o : Option α} {f : α → Option β} {v : α} {Q : β → Prop} (h : o = Option.some v) (k : ok (f v) Q) : ok (o.bind f) Q := by subst h; exact k
theorem ok.cond {c : Bool} {a b : Option α} {Q : α → Prop} (h1 : c = true → ok a Q) (h2 : c = false → ok b Q) : ok (cond c a b) Q := by
  cases c
  · exact h2 rfl
  · exact h1 rfl
theorem ok.ite {c : Prop} [Decidable c] {a b : Option α} {Q : α → Prop} (h1 : c → ok a Q) (h2 : ¬ c → ok b Q) : ok (_root_.cond (decide c) a b) Q := by
  by_cases h : c
  · rw [decide_eq_true h]; exact h1 h
  · rw [decide_eq_false h]; exact h2 h
theorem ok.bs {v : α} {f : α → Option β} {Q : β → Prop} (k : ok (f v) Q) : ok ((Option.some v).bind f) Q := k
theorem ok.iff {c : Prop} [Decidable c] {a b : Option α} {Q : α → Prop} (h : ¬ c) (k : ok b Q) : ok (_root_.cond (decide c) a b) Q := by rw [decide_eq_false h]; exact k
theorem ok.ift {c : Prop} [Decidable c] {a b : Option α} {Q : α → Prop} (h : c) (k : ok a Q) : ok (_root_.cond (decide c) a b) Q := by rw [decide_eq_true h]; exact k
theorem ok.bt {c : Bool} {a b : Option α} {Q : α → Prop} (h : c = true) (k : ok a Q) : ok (_root_.cond c a b) Q := by rw [h]; exact k
theorem ok.bf {c : Bool} {a b : Option α} {Q : α → Prop} (h : c = false) (k : ok b Q) : ok (_root_.cond c a b) Q := by rw [h]; exact k
theorem ok.chk {e : Int} {f : Int → Option β} {Q : β → Prop} (h : -9223372036854775808 ≤ e ∧ e ≤ 9223372036854775807) (k : ok (f e) Q) : ok ((V.chk e).bind f) Q := by
  unfold V.chk; rw [if_pos h]; exact k
theorem chk_eq {e : Int} (h : -9223372036854775808 ≤ e ∧ e ≤ 9223372036854775807) : chk e = some e := if_pos h
theorem ixI_eq {xs : List α} {i : Int} {n : Nat} (h : i = n) (hn : n < xs.length) : ixI xs i = some xs[n] := by
  subst h; unfold ixI; rw [if_pos (by omega)]; simp [hn]
theorem ixI_nat {xs : List α} {n : Nat} (hn : n < xs.length) : ixI xs (n : Int) = some xs[n] := ixI_eq rfl hn
theorem ok.ix {xs : List α} {i : Int} {f : α → Option β} {Q : β → Prop} (h0 : 0 ≤ i) (h1 : i < xs.length) (k : ∀ (n : Nat) (hn : n < xs.length), i = n → ok (f xs[n]) Q) : ok ((ixI xs i).bind f) Q := by
  obtain ⟨n, rfl⟩ := Int.eq_ofNat_of_zero_le h0
  rw [ixI_nat (by omega)]
  exact k n (by omega) rfl
theorem remM_eq {a b : Int} (h : 0 ≤ a ∧ 1 ≤ b) : remM a b = some (a % b) := if_pos h
theorem quoM_eq {a b : Int} (h : 0 ≤ a ∧ a ≤ 9223372036854775807 ∧ 1 ≤ b) : quoM a b = some (a / b) := if_pos h
theorem xorM_eq {a b : Int} (h : 0 ≤ a ∧ a ≤ 9223372036854775807 ∧ 0 ≤ b ∧ b ≤ 9223372036854775807) : xorM a b = some ((a.toNat ^^^ b.toNat : Nat) : Int) := if_pos h
theorem appM_eq {w : Nat} {xs ys : List α} (h : (xs.length + ys.length) * w ≤ 140737488355328 ∧ xs.length + ys.length ≤ 4611686018427387904) : appM w xs ys = some (xs ++ ys) := if_pos h
theorem subM_eq {xs : List α} {l h : Int} (hh : 0 ≤ l ∧ l ≤ h ∧ h ≤ (xs.length : Int)) : subM xs l h = some ((xs.drop l.toNat).take (h.toNat - l.toNat)) := if_pos hh
theorem addS_eq {a b : ByteArray} (h : a.size + b.size ≤ 9223372036854775807) : addS a b = some (a ++ b) := if_pos h
theorem ok.remM {a b : Int} {f : Int → Option β} {Q : β → Prop} (h : 0 ≤ a ∧ 1 ≤ b) (k : ∀ x : Int, x = a % b ∧ 0 ≤ x ∧ x < b → ok (f x) Q) : ok ((V.remM a b).bind f) Q := by
  rw [remM_eq h]; exact k _ ⟨rfl, Int.emod_nonneg _ (by omega), Int.emod_lt_of_pos _ (by omega)⟩
theorem ok.quoM {a b : Int} {f : Int → Option β} {Q : β → Prop} (h : 0 ≤ a ∧ a ≤ 9223372036854775807 ∧ 1 ≤ b) (k : ∀ x : Int, x = a / b ∧ 0 ≤ x ∧ x ≤ a → ok (f x) Q) : ok ((V.quoM a b).bind f) Q := by
  rw [quoM_eq h]; exact k _ ⟨rfl, Int.ediv_nonneg h.1 (by omega), Int.ediv_le_self _ h.1⟩
theorem ok.xorM {a b : Int} {f : Int → Option β} {Q : β → Prop} (h : 0 ≤ a ∧ a ≤ 9223372036854775807 ∧ 0 ≤ b ∧ b ≤ 9223372036854775807) (k : ∀ x : Int, 0 ≤ x → ok (f x) Q) : ok ((V.xorM a b).bind f) Q := by
  rw [xorM_eq h]; exact k _ (Int.natCast_nonneg _)
theorem ok.app {w : Nat} {xs ys : List α} {f : List α → Option β} {Q : β → Prop} (h : (xs.length + ys.length) * w ≤ 140737488355328 ∧ xs.length + ys.length ≤ 4611686018427387904) (k : ok (f (xs ++ ys)) Q) : ok ((appM w xs ys).bind f) Q := by
  rw [appM_eq h]; exact k
theorem ok.val {o : Option α} {v : α} (h : ok o fun r => r = v) : o = Option.some v := by obtain ⟨r, e, rfl⟩ := h; exact e
theorem ok.get {o : Option α} {Q : α → Prop} (h : ok o Q) : ∃ r, o = Option.some r ∧ Q r := h
/-- A loop with an invariant and a measure. -/
theorem ok.loop {σ : Type} {body : σ → Option (σ ⊕ β)} (I : σ → Prop) (μ : σ → Nat) (Q : β → Prop) (h : ∀ s, I s → ok (body s) (fun y => match y with | .inl s' => I s' ∧ μ s' < μ s | .inr b => Q b)) :
    ∀ (N : Nat) (s : σ), I s → μ s < N → ok (loopM body N s) Q := by
  intro N
  induction N with
  | zero => intro s _ h; omega
  | succ N ih =>
    intro s hs hN
    obtain ⟨y, e, hy⟩ := h s hs
    unfold loopM
    rw [e]
    cases y with
    | inl s' => exact ih s' hy.1 (by have := hy.2; omega)
    | inr b => exact ⟨b, rfl, hy⟩
/-- An index runs up to n; what was passed is good. -/
theorem ok.up {body : Int → Option (Int ⊕ β)} (n : Nat) (G : Nat → Prop) (Q : β → Prop) {N : Nat} (hN : n < N) (h : ∀ i, i < n → (∀ k, k < i → G k) → ok (body (i : Int)) fun y => match y with | .inl j => j = (i : Int) + 1 ∧ G i | .inr b => Q b)
    (he : (∀ k, k < n → G k) → ok (body (n : Int)) fun y => match y with | .inl _ => False | .inr b => Q b) : ok (loopM body N (0 : Int)) Q := by
  refine ok.loop (fun i : Int => ∃ m : Nat, i = m ∧ m ≤ n ∧ ∀ k, k < m → G k) (fun i : Int => ((n : Int) - i).toNat) Q ?_ N 0 ⟨0, rfl, Nat.zero_le _, fun k h => by omega⟩ (by omega)
  rintro i ⟨m, rfl, hm, hg⟩
  rcases Nat.lt_or_ge m n with hlt | hge
  · refine (h m hlt hg).mono ?_
    rintro (j | b) hy
    · obtain ⟨rfl, h2⟩ := hy
      exact ⟨⟨m + 1, by omega, by omega, fun k hk => by rcases Nat.lt_succ_iff_lt_or_eq.1 hk with h | rfl; exact hg k h; exact h2⟩, by omega⟩
    · exact hy
  · obtain rfl : m = n := by omega
    refine (he hg).mono ?_
    rintro (j | b) hy
    · exact hy.elim
    · exact hy
/-- What holds of a result if there is one. -/
def al (o : Option α) (Q : α → Prop) : Prop := ∀ r, o = Option.some r → Q r
theorem al.some {Q : α → Prop} {r : α} (h : Q r) : al (some r) Q := fun _ e => by cases e; exact h
theorem al.none {Q : α → Prop} : al none Q := fun _ e => by cases e
theorem al.bind {o : Option α} {f : α → Option β} {Q : β → Prop} (h : ∀ x, o = Option.some x → al (f x) Q) : al (o.bind f) Q := fun r e => by
  obtain ⟨x, h1, h2⟩ := bind_some e; exact h x h1 r h2
theorem al.cond {c : Bool} {a b : Option α} {Q : α → Prop} (h1 : c = true → al a Q) (h2 : c = false → al b Q) : al (_root_.cond c a b) Q := by
  cases c
  · exact h2 rfl
  · exact h1 rfl
theorem al.loop {σ : Type} {body : σ → Option (σ ⊕ β)} (I : σ → Prop) (Q : β → Prop) (h : ∀ s, I s → al (body s) (fun y => match y with | .inl s' => I s' | .inr b => Q b)) : ∀ (N : Nat) (s : σ), I s → al (loopM body N s) Q := by
  intro N
  induction N with
  | zero => intro s _; exact al.none
  | succ N ih =>
    intro s hs r e
    obtain ⟨m, y, e1, e2, e3⟩ := loopM_some e
    cases e1
    have := h s hs y e2
    cases y with
    | inl s' => exact ih s' this r e3
    | inr b => cases e3; exact this
/-- A loop whose result is told by a function of its state. -/
theorem loopM_fun {σ : Type} {body : σ → Option (σ ⊕ β)} (I : σ → Prop) (μ : σ → Nat) (F : σ → β) (h : ∀ s, I s → ∃ y, body s = some y ∧ match y with | .inl s' => I s' ∧ μ s' < μ s ∧ F s' = F s | .inr b => b = F s) :
    ∀ (N : Nat) (s : σ), I s → μ s < N → loopM body N s = some (F s) := by
  intro N
  induction N with
  | zero => intro s _ h; omega
  | succ N ih =>
    intro s hs hN
    obtain ⟨y, e, hy⟩ := h s hs
    unfold loopM
    rw [e]
    cases y with
    | inl s' => obtain ⟨h1, h2, h3⟩ := hy; rw [← h3]; exact ih s' h1 (by omega)
    | inr b => rw [hy]
/-- An index runs up; g tells where it stops early. -/
theorem loopM_upF {body : Int → Option (Int ⊕ β)} (n : Nat) (g : Nat → Option β) (e : β) (h1 : ∀ i, i < n → g i = none → body (i : Int) = some (.inl ((i : Int) + 1))) (h2 : ∀ i b, i < n → (∀ k, k < i → g k = none) → g i = some b → body (i : Int) = some (.inr b)) (h3 : body (n : Int) = some (.inr e)) :
    ∀ (N i : Nat), i ≤ n → (∀ k, k < i → g k = none) → n - i < N → loopM body N (i : Int) = some (((List.range n).findSome? g).getD e) := by
  intro N
  induction N with
  | zero => intro i _ _ h; omega
  | succ N ih =>
    intro i hi hk hN
    unfold loopM
    rcases Nat.lt_or_ge i n with hlt | hge
    · cases hg : g i with
      | none =>
        rw [h1 i hlt hg]
        exact ih (i + 1) hlt (fun k hk' => by rcases Nat.lt_succ_iff_lt_or_eq.1 hk' with h | rfl; exact hk k h; exact hg) (by omega)
      | some b =>
        rw [h2 i b hlt hk hg]
        have : (List.range n).findSome? g = some b := by
          have hn : n = i + (n - i) := by omega
          rw [hn, List.range_add, List.findSome?_append]
          have : (List.range i).findSome? g = none := List.findSome?_eq_none_iff.2 fun x hx => hk x (List.mem_range.1 hx)
          rw [this, Option.none_or]
          obtain ⟨m, hm⟩ : ∃ m, n - i = m + 1 := ⟨n - i - 1, by omega⟩
          rw [hm, List.range_succ_eq_map]
          simp [hg]
        rw [this]; rfl
    · have : i = n := by omega
      subst this
      rw [h3]
      have : (List.range i).findSome? g = none := List.findSome?_eq_none_iff.2 fun x hx => hk x (List.mem_range.1 hx)
      rw [this]; rfl
theorem loopM_up {body : Int → Option (Int ⊕ β)} (n : Nat) (g : Nat → Option β) (e : β) {N : Nat} (hN : n < N) (h1 : ∀ i, i < n → g i = none → body (i : Int) = some (.inl ((i : Int) + 1))) (h2 : ∀ i b, i < n → (∀ k, k < i → g k = none) → g i = some b → body (i : Int) = some (.inr b)) (h3 : body (n : Int) = some (.inr e)) :
    loopM body N (0 : Int) = some (((List.range n).findSome? g).getD e) :=
  loopM_upF n g e h1 h2 h3 N 0 (Nat.zero_le _) (fun k h => by omega) (by omega)
end
end V
end Go.Proofs.Ytaiifcnjmbpbjaa
