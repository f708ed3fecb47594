/- What the rows need, part 7. No condition. -/
import Derived.Test.YtkjnnifnmoekjaaDoorQScF
namespace Go.Proofs.YtkjnnifnmoekjaaDoor
namespace V
set_option linter.unusedVariables false
set_option linter.unusedSimpArgs false
section
variable {α β : Type}
/-- There is a result, and it is as told. -/
def ok (o : Option α) (Q : α → Prop) : Prop := ∃ r, o = some r ∧ Q r
theorem ok.some {Q : α → Prop} {r : α} (h : Q r) : ok (some r) Q := ⟨r, rfl, h⟩
theorem ok.mono {o : Option α} {P Q : α → Prop} (h : ok o P) (hq : ∀ r, P r → Q r) : ok o Q := h.elim fun r h => ⟨r, h.1, hq r h.2⟩
theorem ok.call {o : Option α} {f : α → Option β} {P : α → Prop} {Q : β → Prop} (h : ok o P) (k : ∀ x, P x → ok (f x) Q) : ok (o.bind f) Q := by
  obtain ⟨r, e, hp⟩ := h; subst e; exact k r hp
theorem ok.eq {o : Option α} {f : α → Option β} {v : α} {Q : β → Prop} (h : o = Option.some v) (k : ok (f v) Q) : ok (o.bind f) Q := by subst h; exact k
theorem ok.cond {c : Bool} {a b : Option α} {Q : α → Prop} (h1 : c = true → ok a Q) (h2 : c = false → ok b Q) : ok (cond c a b) Q := by
  cases c
  · exact h2 rfl
  · exact h1 rfl
theorem ok.ite {c : Prop} [Decidable c] {a b : Option α} {Q : α → Prop} (h1 : c → ok a Q) (h2 : ¬ c → ok b Q) : ok (_root_.cond (decide c) a b) Q := by
  by_cases h : c
  · rw [decide_eq_true h]; exact h1 h
  · rw [decide_eq_false h]; exact h2 h
theorem ok.bs {v : α} {f : α → Option β} {Q : β → Prop} (k : ok (f v) Q) : ok ((Option.some v).bind f) Q := k
theorem ok.iff {c : Prop} [Decidable c] {a b : Option α} {Q : α → Prop} (h : ¬ c) (k : ok b Q) : ok (_root_.cond (decide c) a b) Q := by rw [decide_eq_false h]; exact k
theorem ok.ift {c : Prop} [Decidable c] {a b : Option α} {Q : α → Prop} (h : c) (k : ok a Q) : ok (_root_.cond (decide c) a b) Q := by rw [decide_eq_true h]; exact k
theorem ok.bt {c : Bool} {a b : Option α} {Q : α → Prop} (h : c = true) (k : ok a Q) : ok (_root_.cond c a b) Q := by rw [h]; exact k
theorem ok.bf {c : Bool} {a b : Option α} {Q : α → Prop} (h : c = false) (k : ok b Q) : ok (_root_.cond c a b) Q := by rw [h]; exact k
theorem ok.chk {e : Int} {f : Int → Option β} {Q : β → Prop} (h : -9223372036854775808 ≤ e ∧ e ≤ 9223372036854775807) (k : ok (f e) Q) : ok ((V.chk e).bind f) Q := by
  unfold V.chk; rw [if_pos h]; exact k
theorem chk_eq {e : Int} (h : -9223372036854775808 ≤ e ∧ e ≤ 9223372036854775807) : chk e = some e := if_pos h
theorem ixI_eq {xs : List α} {i : Int} {n : Nat} (h : i = n) (hn : n < xs.length) : ixI xs i = some xs[n] := by
  subst h; unfold ixI; rw [if_pos (by omega)]; simp [hn]
theorem ixI_nat {xs : List α} {n : Nat} (hn : n < xs.length) : ixI xs (n : Int) = some xs[n] := ixI_eq rfl hn
theorem ok.ix {xs : List α} {i : Int} {f : α → Option β} {Q : β → Prop} (h0 : 0 ≤ i) (h1 : i < xs.length) (k : ∀ (n : Nat) (hn : n < xs.length), i = n → ok (f xs[n]) Q) : ok ((ixI xs i).bind f) Q := by
  obtain ⟨n, rfl⟩ := Int.eq_ofNat_of_zero_le h0
  rw [ixI_nat (by omega)]
  exact k n (by omega) rfl
theorem remM_eq {a b : Int} (h : 0 ≤ a ∧ 1 ≤ b) : remM a b = some (a % b) := if_pos h
theorem quoM_eq {a b : Int} (h : 0 ≤ a ∧ a ≤ 9223372036854775807 ∧ 1 ≤ b) : quoM a b = some (a / b) := if_pos h
theorem xorM_eq {a b : Int} (h : 0 ≤ a ∧ a ≤ 9223372036854775807 ∧ 0 ≤ b ∧ b ≤ 9223372036854775807) : xorM a b = some ((a.toNat ^^^ b.toNat : Nat) : Int) := if_pos h
theorem appM_eq {w : Nat} {xs ys : List α} (h : (xs.length + ys.length) * w ≤ 140737488355328 ∧ xs.length + ys.length ≤ 4611686018427387904) : appM w xs ys = some (xs ++ ys) := if_pos h
theorem subM_eq {xs : List α} {l h : Int} (hh : 0 ≤ l ∧ l ≤ h ∧ h ≤ (xs.length : Int)) : subM xs l h = some ((xs.drop l.toNat).take (h.toNat - l.toNat)) := if_pos hh
theorem addS_eq {a b : ByteArray} (h : a.size + b.size ≤ 9223372036854775807) : addS a b = some (a ++ b) := if_pos h
theorem ok.remM {a b : Int} {f : Int → Option β} {Q : β → Prop} (h : 0 ≤ a ∧ 1 ≤ b) (k : ∀ x : Int, x = a % b ∧ 0 ≤ x ∧ x < b → ok (f x) Q) : ok ((V.remM a b).bind f) Q := by
  rw [remM_eq h]; exact k _ ⟨rfl, Int.emod_nonneg _ (by omega), Int.emod_lt_of_pos _ (by omega)⟩
theorem ok.quoM {a b : Int} {f : Int → Option β} {Q : β → Prop} (h : 0 ≤ a ∧ a ≤ 9223372036854775807 ∧ 1 ≤ b) (k : ∀ x : Int, x = a / b ∧ 0 ≤ x ∧ x ≤ a → ok (f x) Q) : ok ((V.quoM a b).bind f) Q := by
  rw [quoM_eq h]; exact k _ ⟨rfl, Int.ediv_nonneg h.1 (by omega), Int.ediv_le_self _ h.1⟩
theorem ok.xorM {a b : Int} {f : Int → Option β} {Q : β → Prop} (h : 0 ≤ a ∧ a ≤ 9223372036854775807 ∧ 0 ≤ b ∧ b ≤ 9223372036854775807) (k : ∀ x : Int, 0 ≤ x → ok (f x) Q) : ok ((V.xorM a b).bind f) Q := by
  rw [xorM_eq h]; exact k _ (Int.natCast_nonneg _)
theorem ok.app {w : Nat} {xs ys : List α} {f : List α → Option β} {Q : β → Prop} (h : (xs.length + ys.length) * w ≤ 140737488355328 ∧ xs.length + ys.length ≤ 4611686018427387904) (k : ok (f (xs ++ ys)) Q) : ok ((appM w xs ys).bind f) Q := by
  rw [appM_eq h]; exact k
theorem ok.val {o : Option α} {v : α} (h : ok o fun r => r = v) : o = Option.some v := by obtain ⟨r, e, rfl⟩ := h; exact e
end
end V
end Go.Proofs.YtkjnnifnmoekjaaDoor
namespace Go.Proofs.YtkjnnifnmoekjaaDoor
namespace V
set_option linter.unusedVariables false
set_option linter.unusedSimpArgs false
/-- An index runs up from i to n; I tells the state. -/
theorem ok.each {S β : Type} {body : S → Option (S ⊕ β)} (n : Nat) (I : Nat → S → Prop) (Q : β → Prop) (h : ∀ i s, i < n → I i s → ok (body s) fun y => match y with | .inl s' => I (i + 1) s' | .inr b => Q b)
    (he : ∀ s, I n s → ok (body s) fun y => match y with | .inl _ => False | .inr b => Q b) : ∀ (N i : Nat) (s : S), i ≤ n → I i s → n - i < N → ok (loopM body N s) Q := by
  intro N
  induction N with
  | zero => intro i s _ _ h; omega
  | succ N ih =>
    intro i s hi hs hN
    unfold loopM
    rcases Nat.lt_or_ge i n with hlt | hge
    · obtain ⟨y, e, hy⟩ := h i s hlt hs
      rw [e]
      cases y with
      | inl s' => exact ih (i + 1) s' hlt hy (by omega)
      | inr b => exact ⟨b, rfl, hy⟩
    · obtain rfl : i = n := by omega
      obtain ⟨y, e, hy⟩ := he s hs
      rw [e]
      cases y with
      | inl s' => exact hy.elim
      | inr b => exact ⟨b, rfl, hy⟩
theorem bool_eq {o : Option Bool} {p : Prop} [Decidable p] (h : ok o fun r => r = true ↔ p) : o = some (decide p) := by
  obtain ⟨r, e, hr⟩ := h
  rw [e]; congr 1
  by_cases hp : p
  · rw [decide_eq_true hp]; exact hr.2 hp
  · rw [decide_eq_false hp]; cases r
    · rfl
    · exact (hp (hr.1 rfl)).elim
end V
end Go.Proofs.YtkjnnifnmoekjaaDoor
namespace Go.Proofs.YtkjnnifnmoekjaaDoor
namespace V
set_option linter.unusedVariables false
set_option linter.unusedSimpArgs false
set_option maxHeartbeats 1000000
section
variable {α β : Type}
end
theorem allG {G : Nat → Prop} {i : Nat} (h : ∀ k, k < i → G k) (h1 : G i) : ∀ k, k < i + 1 → G k := fun k hk => by
  rcases Nat.lt_succ_iff_lt_or_eq.1 hk with h2 | h2
  · exact h k h2
  · subst h2; exact h1
theorem take_succ1 {α : Type} {xs : List α} {i : Nat} (h : i < xs.length) : xs.take (i + 1) = xs.take i ++ [xs[i]] := by rw [List.take_add_one, List.getElem?_eq_getElem h]; rfl
theorem mem_take_succ {α : Type} {xs : List α} {i : Nat} (h : i < xs.length) {y : α} : y ∈ xs.take (i + 1) ↔ y ∈ xs.take i ∨ y = xs[i] := by
  rw [take_succ1 h, List.mem_append, List.mem_singleton]
/-- A loop asks the same of each number. -/
theorem all_ok {body : Int → Option (Int ⊕ (Unit ⊕ Bool))} {N n : Nat} (d : Int) (G : Nat → Prop) (hN : n < N) (h : ∀ i, i < n → (∀ k, k < i → G k) → ok (body ((i : Int) + d)) fun y => (y = .inl ((i : Int) + d + 1) ∧ G i) ∨ (y = .inr (.inr false) ∧ ¬ G i)) (he : body ((n : Int) + d) = some (.inr (.inl ()))) :
    ok (loopM body N d) fun o => (o = .inl () ∧ ∀ k, k < n → G k) ∨ (o = .inr false ∧ ¬ ∀ k, k < n → G k) := by
  refine ok.each n (fun i s => s = (i : Int) + d ∧ ∀ k, k < i → G k) _ ?_ ?_ N 0 d (Nat.zero_le _) ⟨by simp, fun k h => by omega⟩ (by omega)
  · rintro i s hi ⟨rfl, hg⟩
    refine (h i hi hg).mono ?_
    rintro _ (⟨rfl, h1⟩ | ⟨rfl, h1⟩)
    · exact ⟨by simp; omega, allG hg h1⟩
    · exact .inr ⟨rfl, fun hh => h1 (hh i hi)⟩
  · rintro s ⟨rfl, hg⟩
    rw [he]
    exact ok.some (.inl ⟨rfl, hg⟩)
theorem ixS_nat {u : ByteArray} {i : Nat} (h : i < u.size) : ixS u (i : Int) = some u[i] := by
  unfold ixS; rw [dif_pos ⟨by omega, by simpa using h⟩]; rfl
/-- All bytes of a text lie in a range. -/
def inR (lo hi : Int) (u : ByteArray) : Prop := ∀ i (h : i < u.size), lo ≤ (u[i].toNat : Int) ∧ (u[i].toNat : Int) ≤ hi
theorem text_ok {body : Int → Option (Int ⊕ (Unit ⊕ Bool))} {N : Nat} {u : ByteArray} (lo hi : Int) (hN : u.size < N) (hb : u.size ≤ 1000000000)
    (h : ∀ i (hi' : i < u.size), body (i : Int) = if lo ≤ (u[i].toNat : Int) ∧ (u[i].toNat : Int) ≤ hi then some (.inl ((i : Int) + 1)) else some (.inr (.inr false))) (he : body (u.size : Int) = some (.inr (.inl ()))) :
    ok (loopM body N 0) fun o => (o = .inl () ∧ inR lo hi u) ∨ (o = .inr false ∧ ¬ inR lo hi u) := by
  refine (all_ok (n := u.size) 0 (fun i => ∀ h : i < u.size, lo ≤ (u[i].toNat : Int) ∧ (u[i].toNat : Int) ≤ hi) hN ?_ ?_).mono ?_
  · intro i hi' _
    rw [Int.add_zero, h i hi']
    split
    · rename_i hc; exact ok.some (.inl ⟨rfl, fun _ => hc⟩)
    · rename_i hc; exact ok.some (.inr ⟨rfl, fun h => hc (h hi')⟩)
  · rw [Int.add_zero]; exact he
  · rintro o (⟨rfl, h⟩ | ⟨rfl, h⟩)
    · exact .inl ⟨rfl, fun i hi => h i hi hi⟩
    · exact .inr ⟨rfl, fun hh => h fun i hi h2 => hh i h2⟩
theorem inRange_of (a l h : Int) : (_root_.cond (decide (l ≤ a)) (some (decide (a ≤ h))) (some false)) = some (decide (l ≤ a ∧ a ≤ h)) := by
  by_cases h1 : l ≤ a <;> by_cases h2 : a ≤ h <;> simp [h1, h2]
end V
end Go.Proofs.YtkjnnifnmoekjaaDoor
namespace Go.Proofs.YtkjnnifnmoekjaaDoor
namespace V
set_option linter.unusedVariables false
set_option linter.unusedSimpArgs false
theorem pick_ok (N : Nat) {r : S_reader} {n : Int} (h : r.b.length ≤ 4000000000) (h0 : 0 ≤ r.p ∧ r.p ≤ 2000000000) (hn : n ≤ 4000000000) : ok (m_S_reader_pick N r n) fun x => x.2 = ⟨r.b, r.p + 1⟩ ∧ 0 ≤ x.1 ∧ (x.1 < n ∨ x.1 = 0) := by
  unfold m_S_reader_pick
  have hb : ∀ u : UInt8, (0 : Int) ≤ (u.toNat : Int) ∧ (u.toNat : Int) ≤ 255 := fun u => by have := u.toNat_lt; omega
  repeat' (first | (with_reducible refine ok.some ?_) | ((with_reducible refine ok.ix (by omega) (by omega) (fun q hq he => ?_); have := hb (r.b[q]); generalize (r.b[q].toNat : Int) = u at *)) | ((with_reducible refine ok.xorM (by omega) (fun _ hq => ?_))) | (with_reducible refine ok.ite (fun hc => ?_) (fun hc => ?_)) | (with_reducible refine ok.cond (fun hc => ?_) (fun hc => ?_)) | (with_reducible refine ok.chk (by omega) ?_) | (with_reducible refine ok.bs ?_) | (with_reducible refine ok.remM (by omega) (fun _ hq => ?_)) | (with_reducible refine ok.quoM (by omega) (fun _ hq => ?_)) | (with_reducible refine ok.ix (by omega) (by omega) (fun q hq he => ?_)))
  all_goals (first | exact ⟨rfl, Int.le_refl _, .inr rfl⟩ | exact ⟨rfl, by omega, by omega⟩)
theorem newReader_ok (N : Nat) (l : List UInt8) : ok (m_S_newReader N l) fun r => r.b.length ≤ 2000 ∧ r.p = 0 := by
  unfold m_S_newReader
  repeat' (first | (with_reducible refine ok.some ?_) | ((rw [subM_eq (by omega)]; refine ok.some ?_)) | (with_reducible refine ok.ite (fun hc => ?_) (fun hc => ?_)) | (with_reducible refine ok.cond (fun hc => ?_) (fun hc => ?_)) | (with_reducible refine ok.chk (by omega) ?_) | (with_reducible refine ok.bs ?_) | (with_reducible refine ok.remM (by omega) (fun _ hq => ?_)) | (with_reducible refine ok.quoM (by omega) (fun _ hq => ?_)) | (with_reducible refine ok.ix (by omega) (by omega) (fun q hq he => ?_)))
  · exact ⟨by simp; omega, rfl⟩
  · exact ⟨by show l.length ≤ 2000; omega, rfl⟩
theorem one_ok (N : Nat) {r : S_reader} {l : List Int} (h : r.b.length ≤ 4000000000) (h0 : 0 ≤ r.p ∧ r.p ≤ 2000000000) (hl : 0 < l.length) (hl' : l.length ≤ 1000) : ok (m_S_reader_one N r l) fun x => x.2 = ⟨r.b, r.p + 1⟩ ∧ x.1 ∈ l := by
  unfold m_S_reader_one
  refine ok.call (pick_ok N h h0 (by omega)) ?_
  rintro x ⟨h1, h2, h3⟩
  repeat' (first | (with_reducible refine ok.some ?_) | (with_reducible refine ok.ite (fun hc => ?_) (fun hc => ?_)) | (with_reducible refine ok.cond (fun hc => ?_) (fun hc => ?_)) | (with_reducible refine ok.chk (by omega) ?_) | (with_reducible refine ok.bs ?_) | (with_reducible refine ok.remM (by omega) (fun _ hq => ?_)) | (with_reducible refine ok.quoM (by omega) (fun _ hq => ?_)) | (with_reducible refine ok.ix (by omega) (by omega) (fun q hq he => ?_)))
  exact ⟨h1, List.getElem_mem _⟩
theorem of_ok (N : Nat) {r : S_reader} {l : List ByteArray} (h : r.b.length ≤ 4000000000) (h0 : 0 ≤ r.p ∧ r.p ≤ 2000000000) (hl : 0 < l.length) (hl' : l.length ≤ 1000) : ok (m_S_reader_of N r l) fun x => x.2 = ⟨r.b, r.p + 1⟩ ∧ x.1 ∈ l := by
  unfold m_S_reader_of
  refine ok.call (pick_ok N h h0 (by omega)) ?_
  rintro x ⟨h1, h2, h3⟩
  repeat' (first | (with_reducible refine ok.some ?_) | (with_reducible refine ok.ite (fun hc => ?_) (fun hc => ?_)) | (with_reducible refine ok.cond (fun hc => ?_) (fun hc => ?_)) | (with_reducible refine ok.chk (by omega) ?_) | (with_reducible refine ok.bs ?_) | (with_reducible refine ok.remM (by omega) (fun _ hq => ?_)) | (with_reducible refine ok.quoM (by omega) (fun _ hq => ?_)) | (with_reducible refine ok.ix (by omega) (by omega) (fun q hq he => ?_)))
  exact ⟨h1, List.getElem_mem _⟩
end V
end Go.Proofs.YtkjnnifnmoekjaaDoor
namespace Go.Proofs.YtkjnnifnmoekjaaDoor
namespace V
set_option linter.unusedVariables false
set_option linter.unusedSimpArgs false
set_option maxHeartbeats 1000000
theorem inRange_eq (N : Nat) (a l h : Int) : m_S_inRange N a l h = some (decide (l ≤ a ∧ a ≤ h)) := inRange_of a l h
/-- A text that is a value. -/
def vTx (u : ByteArray) : Prop := u.size ≤ 12 ∧ inR 32 126 u
noncomputable instance (u : ByteArray) : Decidable (vTx u) := Classical.propDecidable _
/-- A value that is valid. -/
def vV (v : I_Value) : Prop := (v.kind = 0 ∧ v.num = 0 ∧ v.text = ByteArray.empty) ∨ (v.kind = 1 ∧ -999999 ≤ v.num ∧ v.num ≤ 999999 ∧ v.text = ByteArray.empty) ∨ (v.kind = 2 ∧ v.num = 0 ∧ vTx v.text)
noncomputable instance (v : I_Value) : Decidable (vV v) := Classical.propDecidable _
section
variable {N : Nat} (hN : 100000000 ≤ N)
include hN
theorem vTxI {u : ByteArray} (h : u.size ≤ 5000000) : m_I_validText N u = some (decide (vTx u)) := by
  refine bool_eq ?_
  unfold m_I_validText
  refine ok.ite (fun hc => ok.some ⟨fun e => (by cases e), fun e => (by have := e.1; omega)⟩) fun h2 => ?_
  refine ok.call (text_ok (u := u) 32 126 (by omega) (by omega) (fun i hi => ?_) ?_) ?_
  · show m_I_validText_b1 N u (i : Int) = _
    unfold m_I_validText_b1
    rw [decide_eq_true (by omega), cond_true, ixS_nat hi]
    simp only [Option.bind_some]
    have e1 : ((32 : UInt8).toNat : Int) = 32 := rfl
    have e2 : ((126 : UInt8).toNat : Int) = 126 := rfl
    rw [e1, e2]
    by_cases c1 : (u[i].toNat : Int) < 32
    · rw [decide_eq_true c1, cond_true, if_neg (by omega)]
    · rw [decide_eq_false c1, cond_false]
      by_cases c2 : (126 : Int) < (u[i].toNat : Int)
      · rw [decide_eq_true c2, cond_true, if_neg (by omega)]
      · rw [decide_eq_false c2, cond_false, if_pos (by omega), chk_eq (by omega)]; rfl
  · show m_I_validText_b1 N u _ = _
    unfold m_I_validText_b1
    rw [decide_eq_false (by omega)]; rfl
  · rintro _ (⟨rfl, h⟩ | ⟨rfl, h⟩)
    · exact ok.some ⟨fun _ => ⟨by omega, h⟩, fun _ => rfl⟩
    · exact ok.some ⟨fun e => (by cases e), fun e => (h e.2).elim⟩
theorem vTxS {u : ByteArray} (h : u.size ≤ 5000000) : m_S_validText N u = some (decide (vTx u)) := by
  refine bool_eq ?_
  unfold m_S_validText
  refine ok.call (text_ok (u := u) 32 126 (by omega) (by omega) (fun i hi => ?_) ?_) ?_
  · show m_S_validText_b1 N u (i : Int) = _
    unfold m_S_validText_b1
    rw [decide_eq_true (by omega), cond_true, ixS_nat hi]
    simp only [Option.bind_some]
    rw [inRange_eq]
    simp only [Option.bind_some]
    by_cases c1 : 32 ≤ (u[i].toNat : Int) ∧ (u[i].toNat : Int) ≤ 126
    · rw [decide_eq_true c1, cond_true, if_pos c1, chk_eq (by omega)]; rfl
    · rw [decide_eq_false c1, cond_false, if_neg c1]
  · show m_S_validText_b1 N u _ = _
    unfold m_S_validText_b1
    rw [decide_eq_false (by omega)]; rfl
  · rintro _ (⟨rfl, h⟩ | ⟨rfl, h⟩)
    · unfold m_S_validText_k1
      refine ok.some ?_
      rw [decide_eq_true_eq]
      exact ⟨fun e => ⟨by omega, h⟩, fun e => by have := e.1; omega⟩
    · exact ok.some ⟨fun e => (by cases e), fun e => (h e.2).elim⟩
theorem vVI {v : I_Value} (h : v.text.size ≤ 5000000) : m_I_ValidValue N v = some (decide (vV v)) := by
  refine bool_eq ?_
  unfold m_I_ValidValue vV
  refine ok.ite (fun k0 => ok.ite (fun n0 => ok.some ?_) fun n0 => ok.some ?_) fun k0 => ok.ite (fun k1 => ok.ite (fun n0 => ok.ite (fun n1 => ok.some ?_) fun n1 => ok.some ?_) fun n0 => ok.some ?_) fun k1 => ok.ite (fun k2 => ok.ite (fun n0 => ok.eq (vTxI hN h) (ok.some ?_)) fun n0 => ok.some ?_) fun k2 => ok.some ?_
  · rw [textEq, decide_eq_true_eq]; exact ⟨fun e => .inl ⟨k0, n0, e⟩, fun e => by rcases e with e | e | e; exact e.2.2; omega; omega⟩
  · exact ⟨fun e => (by cases e), fun e => by omega⟩
  · rw [textEq, decide_eq_true_eq]; exact ⟨fun e => .inr (.inl ⟨k1, n0, n1, e⟩), fun e => by rcases e with e | e | e; omega; exact e.2.2.2; omega⟩
  · exact ⟨fun e => (by cases e), fun e => by omega⟩
  · exact ⟨fun e => (by cases e), fun e => by omega⟩
  · rw [decide_eq_true_eq]; exact ⟨fun e => .inr (.inr ⟨k2, n0, e⟩), fun e => by rcases e with e | e | e; omega; omega; exact e.2.2⟩
  · exact ⟨fun e => (by cases e), fun e => by omega⟩
  · exact ⟨fun e => (by cases e), fun e => by omega⟩
theorem vVS {v : I_Value} (h : v.text.size ≤ 5000000) : m_S_validValue N v = some (decide (vV v)) := by
  refine bool_eq ?_
  unfold m_S_validValue vV
  refine ok.ite (fun k0 => ok.ite (fun n0 => ok.some ?_) fun n0 => ok.some ?_) fun k0 => ok.ite (fun k1 => ok.eq (inRange_eq N _ _ _) (ok.ite (fun n0 => ok.some ?_) fun n0 => ok.some ?_)) fun k1 => ok.ite (fun k2 => ok.ite (fun n0 => ok.eq (vTxS hN h) (ok.some ?_)) fun n0 => ok.some ?_) fun k2 => ok.some ?_
  · rw [textEq, decide_eq_true_eq]; exact ⟨fun e => .inl ⟨k0, n0, e⟩, fun e => by rcases e with e | e | e; exact e.2.2; omega; omega⟩
  · exact ⟨fun e => (by cases e), fun e => by omega⟩
  · rw [textEq, decide_eq_true_eq]; exact ⟨fun e => .inr (.inl ⟨k1, n0.1, n0.2, e⟩), fun e => by rcases e with e | e | e; omega; exact e.2.2.2; omega⟩
  · exact ⟨fun e => (by cases e), fun e => by omega⟩
  · rw [decide_eq_true_eq]; exact ⟨fun e => .inr (.inr ⟨k2, n0, e⟩), fun e => by rcases e with e | e | e; omega; omega; exact e.2.2⟩
  · exact ⟨fun e => (by cases e), fun e => by omega⟩
  · exact ⟨fun e => (by cases e), fun e => by omega⟩
end
theorem b2s_data (xs : List UInt8) : (b2s xs).size = xs.length := rfl
theorem b2s_app2 (xs ys : List UInt8) : b2s xs ++ b2s ys = b2s (xs ++ ys) := by
  apply ByteArray.ext
  rw [ByteArray.data_append]
  unfold b2s
  simp
theorem nd_le : ∀ (k u : Nat), u < 10 ^ (k + 1) → Lib.nDigits u ≤ k + 1
  | 0, u, h => by rw [Lib.nDigits_small (by simpa using h)]; omega
  | k + 1, u, h => by
    by_cases a : u < 10
    · rw [Lib.nDigits_small a]; omega
    · rw [Lib.nDigits_big a]
      have := nd_le k (u / 10) (by rw [Nat.pow_succ] at h; omega)
      omega
theorem decimal_nat : ∀ (k N : Nat) (u : Nat), k < N → u < 10 ^ (k + 1) → u ≤ 1000000000 → m_S_decimal N (u : Int) = some (b2s (Lib.decDigits u))
  | k, 0, u, h, _, _ => by omega
  | k, N + 1, u, h, hu, hb => by
    refine ok.val ?_
    unfold m_S_decimal
    refine ok.iff (by omega) (ok.ite (fun h1 => ?_) fun h1 => ?_)
    · refine ok.chk (by omega) (ok.some ?_)
      rw [Lib.decDigits, dif_pos (by omega)]
      congr 2
      unfold i2b
      congr 1; omega
    · refine ok.eq (quoM_eq (by omega)) ?_
      obtain ⟨k, rfl⟩ : ∃ j, k = j + 1 := by
        rcases k with _ | j
        · simp at hu; omega
        · exact ⟨j, rfl⟩
      have e : (u : Int) / 10 = ((u / 10 : Nat) : Int) := by omega
      rw [e]
      refine ok.eq (decimal_nat k N (u / 10) (by omega) (by rw [Nat.pow_succ] at hu; omega) (by omega)) ?_
      refine ok.eq (remM_eq (by omega)) (ok.chk (by omega) (ok.eq (addS_eq ?_) (ok.some ?_)))
      · have := nd_le 9 (u / 10) (by omega)
        rw [b2s_data, b2s_data, Lib.decDigits_length]; simp; omega
      · rw [b2s_app2]
        conv => rhs; rw [Lib.decDigits, dif_neg (by omega)]
        congr 3
        unfold i2b
        congr 1; omega
theorem decimal_ok {N : Nat} (hN : 100 ≤ N) {n : Int} (h : -1000000000 ≤ n ∧ n ≤ 1000000000) : m_S_decimal N n = some (itoaB n) := by
  by_cases h0 : n < 0
  · obtain ⟨u, rfl⟩ : ∃ u : Nat, n = -(u : Int) := ⟨n.natAbs, by omega⟩
    obtain ⟨M, rfl⟩ : ∃ M, N = M + 1 := ⟨N - 1, by omega⟩
    refine ok.val ?_
    unfold m_S_decimal itoaB
    refine ok.ift h0 (ok.chk (by omega) (ok.iff (by omega) (ok.chk (by omega) ?_)))
    rw [Int.neg_neg]
    refine ok.eq (decimal_nat 9 M u (by omega) (by omega) (by omega)) (ok.eq (addS_eq ?_) (ok.some ?_))
    · have := nd_le 9 u (by omega)
      rw [b2s_data, Lib.decDigits_length]
      have : (ByteArray.mk #[45]).size = 1 := rfl
      omega
    · rw [Lib.itoa_neg u (by omega)]
      exact b2s_app2 [45] (Lib.decDigits u)
  · obtain ⟨u, rfl⟩ : ∃ u : Nat, n = (u : Int) := ⟨n.toNat, by omega⟩
    rw [decimal_nat 9 N u (by omega) (by omega) (by omega)]
    unfold itoaB
    rw [Lib.itoa_nonneg]; rfl
theorem itoaB_ok {n : Int} (h : -999999 ≤ n ∧ n ≤ 999999) : vTx (itoaB n) := by
  have hd : ∀ u : Nat, u ≤ 999999 → (Lib.decDigits u).length ≤ 6 ∧ ∀ x ∈ Lib.decDigits u, 48 ≤ x.toNat ∧ x.toNat ≤ 57 := by
    intro u hu
    constructor
    · rw [Lib.decDigits_length]
      exact nd_le 5 u (by omega)
    · intro x hx
      rw [Lib.decDigits_eq, List.mem_map] at hx
      obtain ⟨j, _, rfl⟩ := hx
      unfold Lib.dg
      have : u / 10 ^ (Lib.nDigits u - 1 - j) % 10 < 10 := Nat.mod_lt _ (by decide)
      generalize u / 10 ^ (Lib.nDigits u - 1 - j) % 10 = v at this
      have : (UInt8.ofNat (48 + v)).toNat = 48 + v := by rw [UInt8.toNat_ofNat']; omega
      omega
  have hall : (Lib.itoa n).length ≤ 12 ∧ ∀ x ∈ Lib.itoa n, 32 ≤ x.toNat ∧ x.toNat ≤ 126 := by
    by_cases h0 : n < 0
    · obtain ⟨u, rfl⟩ : ∃ u : Nat, n = -(u : Int) := ⟨n.natAbs, by omega⟩
      have := hd u (by omega)
      rw [Lib.itoa_neg u (by omega)]
      refine ⟨by rw [List.length_cons]; omega, fun x hx => ?_⟩
      rcases List.mem_cons.1 hx with rfl | hx
      · decide
      · have := this.2 x hx; omega
    · obtain ⟨u, rfl⟩ : ∃ u : Nat, n = (u : Int) := ⟨n.toNat, by omega⟩
      have := hd u (by omega)
      rw [Lib.itoa_nonneg]
      exact ⟨by omega, fun x hx => by have := this.2 x hx; omega⟩
  unfold vTx itoaB
  refine ⟨by show (Lib.itoa n).toArray.size ≤ 12; rw [List.size_toArray]; exact hall.1, fun i hi => ?_⟩
  have : (ByteArray.mk (Lib.itoa n).toArray)[i] ∈ Lib.itoa n := by
    show (Lib.itoa n).toArray[i] ∈ _
    rw [List.getElem_toArray]; exact List.getElem_mem _
  have := hall.2 _ this
  omega
end V
end Go.Proofs.YtkjnnifnmoekjaaDoor
namespace Go.Proofs.YtkjnnifnmoekjaaDoor
namespace V
set_option linter.unusedVariables false
set_option linter.unusedSimpArgs false
set_option maxHeartbeats 1000000
/-- A column that is valid. -/
def cV (c : I_Column) : Prop := (c.kind = 1 ∨ c.kind = 2) ∧ vV c.default ∧ (c.default.kind = 0 ∨ c.default.kind = c.kind)
noncomputable instance (c : I_Column) : Decidable (cV c) := Classical.propDecidable _
/-- A format that is valid. -/
def vF (f : List I_Column) : Prop := (1 ≤ f.length ∧ f.length ≤ 5) ∧ ∀ i (h : i < f.length), cV f[i]
noncomputable instance (f : List I_Column) : Decidable (vF f) := Classical.propDecidable _
/-- A change that is possible. -/
def poss (f : List I_Column) (c : I_Change) : Prop := (c.kind = 1 ∧ 0 ≤ c.at_ ∧ c.at_ ≤ f.length ∧ f.length < 5 ∧ cV c.column) ∨ (c.kind = 2 ∧ 0 ≤ c.at_ ∧ c.at_ < f.length ∧ 1 < f.length) ∨ (c.kind = 3 ∧ 0 ≤ c.at_ ∧ ∃ h : c.at_.toNat < f.length, f[c.at_.toNat].kind = 1)
noncomputable instance (f : List I_Column) (c : I_Change) : Decidable (poss f c) := Classical.propDecidable _
/-- A number made a text. -/
def wid (v : I_Value) : I_Value := if v.kind = 1 then ⟨2, 0, itoaB v.num⟩ else v
/-- A format after a change. -/
def chF (f : List I_Column) (c : I_Change) : List I_Column := if c.kind = 1 then f.insertIdx c.at_.toNat c.column else if c.kind = 2 then f.eraseIdx c.at_.toNat else f.modify c.at_.toNat fun x => ⟨2, wid x.default⟩
/-- A row after a change. -/
def mv (r : List I_Value) (c : I_Change) : List I_Value := if c.kind = 1 then r.insertIdx c.at_.toNat c.column.default else if c.kind = 2 then r.eraseIdx c.at_.toNat else r.modify c.at_.toNat wid
/-- A row has a format. -/
def fitP (f : List I_Column) (r : List I_Value) : Prop := r.length = f.length ∧ ∀ i (h : i < r.length) (h' : i < f.length), vV r[i] ∧ (r[i].kind = 0 ∨ r[i].kind = f[i].kind)
noncomputable instance (f : List I_Column) (r : List I_Value) : Decidable (fitP f r) := Classical.propDecidable _
/-- Texts are not too long. -/
def bS (f : List I_Column) : Prop := f.length ≤ 5000000 ∧ ∀ c ∈ f, c.default.text.size ≤ 5000000
/-- Numbers are not too large. -/
def bN (f : List I_Column) : Prop := ∀ c ∈ f, -1000000000 ≤ c.default.num ∧ c.default.num ≤ 1000000000
theorem vV_size {v : I_Value} (h : vV v) : v.text.size ≤ 12 := by
  rcases h with h | h | h
  · rw [h.2.2]; exact Nat.zero_le _
  · rw [h.2.2.2]; exact Nat.zero_le _
  · exact h.2.2.1
theorem vV_num {v : I_Value} (h : vV v) : -999999 ≤ v.num ∧ v.num ≤ 999999 := by rcases h with h | h | h <;> omega
theorem vV_wid {v : I_Value} (h : vV v) : vV (wid v) ∧ ((wid v).kind = 0 ∨ (wid v).kind = 2) := by
  unfold wid
  split
  · rename_i hk
    exact ⟨.inr (.inr ⟨rfl, rfl, itoaB_ok (vV_num h)⟩), .inr rfl⟩
  · rename_i hk
    exact ⟨h, by rcases h with h | h | h <;> omega⟩
theorem vF_bS {f : List I_Column} (h : vF f) : bS f := ⟨by have := h.1; omega, fun c hc => by
  obtain ⟨i, hi, rfl⟩ := List.mem_iff_getElem.1 hc
  have := vV_size (h.2 i hi).2.1; omega⟩
theorem vF_bN {f : List I_Column} (h : vF f) : bN f := fun c hc => by
  obtain ⟨i, hi, rfl⟩ := List.mem_iff_getElem.1 hc
  have := vV_num (h.2 i hi).2.1; omega
theorem wid_num {v : I_Value} (h : -1000000000 ≤ v.num ∧ v.num ≤ 1000000000) : -1000000000 ≤ (wid v).num ∧ (wid v).num ≤ 1000000000 := by
  unfold wid; split
  · dsimp only; omega
  · exact h
theorem poss_at {f : List I_Column} {c : I_Change} (h : poss f c) : 0 ≤ c.at_ ∧ c.at_ ≤ f.length := by
  rcases h with h | h | ⟨h1, h2, h3, h4⟩ <;> omega
theorem bN_chF {f : List I_Column} {c : I_Change} (h : bN f) (hp : poss f c) : bN (chF f c) := by
  intro x hx
  unfold chF at hx
  rcases hp with ⟨k, h1, h2, h3, h4⟩ | ⟨k, h1, h2, h3⟩ | ⟨k, h1, h2, h3⟩
  · rw [if_pos k, List.mem_insertIdx (by omega)] at hx
    rcases hx with rfl | hx
    · have := vV_num h4.2.1; omega
    · exact h x hx
  · rw [if_neg (by omega), if_pos k] at hx
    exact h x (List.mem_of_mem_eraseIdx hx)
  · rw [if_neg (by omega), if_neg (by omega)] at hx
    obtain ⟨i, hi, rfl⟩ := List.mem_iff_getElem.1 hx
    rw [List.getElem_modify]
    split
    · exact wid_num (h _ (List.getElem_mem _))
    · exact h _ (List.getElem_mem _)
theorem vF_chF {f : List I_Column} {c : I_Change} (h : vF f) (hp : poss f c) : vF (chF f c) := by
  unfold chF
  obtain ⟨hl, h⟩ := h
  rcases hp with ⟨k, h1, h2, h3, h4⟩ | ⟨k, h1, h2, h3⟩ | ⟨k, h1, h2, h3⟩
  · rw [if_pos k]
    refine ⟨by rw [List.length_insertIdx]; split <;> omega, fun i hi => ?_⟩
    rw [List.getElem_insertIdx]
    split
    · exact h _ _
    · split
      · exact h4
      · exact h _ _
  · rw [if_neg (by omega), if_pos k]
    refine ⟨by rw [List.length_eraseIdx]; split <;> omega, fun i hi => ?_⟩
    rw [List.getElem_eraseIdx]
    split <;> exact h _ _
  · rw [if_neg (by omega), if_neg (by omega)]
    refine ⟨by rw [List.length_modify]; omega, fun i hi => ?_⟩
    rw [List.getElem_modify]
    split
    · have := vV_wid (h i (by rw [List.length_modify] at hi; exact hi)).2.1
      exact ⟨.inr rfl, this.1, this.2⟩
    · exact h _ _
theorem fit_mv {f : List I_Column} {c : I_Change} {r : List I_Value} (h : fitP f r) (hp : poss f c) : fitP (chF f c) (mv r c) := by
  obtain ⟨hl, h⟩ := h
  unfold chF mv
  rcases hp with ⟨k, h1, h2, h3, h4⟩ | ⟨k, h1, h2, h3⟩ | ⟨k, h1, h2, h3⟩
  · rw [if_pos k, if_pos k]
    refine ⟨by rw [List.length_insertIdx, List.length_insertIdx, hl], fun i hi hi' => ?_⟩
    rw [List.length_insertIdx, if_pos (by omega)] at hi hi'
    rw [List.getElem_insertIdx, List.getElem_insertIdx]
    by_cases a1 : i < c.at_.toNat
    · rw [dif_pos a1, dif_pos a1]; exact h _ _ _
    · rw [dif_neg a1, dif_neg a1]
      by_cases a2 : i = c.at_.toNat
      · rw [dif_pos a2, dif_pos a2]; exact ⟨h4.2.1, h4.2.2⟩
      · rw [dif_neg a2, dif_neg a2]; exact h _ _ _
  · rw [if_neg (by omega), if_pos k, if_neg (by omega), if_pos k]
    refine ⟨by rw [List.length_eraseIdx, List.length_eraseIdx, hl], fun i hi hi' => ?_⟩
    rw [List.getElem_eraseIdx, List.getElem_eraseIdx]
    split <;> exact h _ _ _
  · rw [if_neg (by omega), if_neg (by omega), if_neg (by omega), if_neg (by omega)]
    refine ⟨by rw [List.length_modify, List.length_modify, hl], fun i hi hi' => ?_⟩
    rw [List.length_modify] at hi hi'
    rw [List.getElem_modify, List.getElem_modify]
    by_cases a : c.at_.toNat = i
    · rw [if_pos a, if_pos a]
      exact vV_wid (h i hi hi').1
    · rw [if_neg a, if_neg a]; exact h _ _ _
theorem mod_eq {α : Type} {xs : List α} {i : Nat} {f : α → α} (h : i < xs.length) : xs.modify i f = xs.set i (f xs[i]) := by
  apply List.ext_getElem
  · rw [List.length_modify, List.length_set]
  · intro k h1 h2
    rw [List.getElem_modify, List.getElem_set]
    by_cases a : i = k
    · subst a; simp
    · rw [if_neg a, if_neg a]
theorem ins_eq {α : Type} {xs : List α} {i : Nat} {a : α} (h : i ≤ xs.length) : xs.take i ++ a :: xs.drop i = xs.insertIdx i a := by
  apply List.ext_getElem
  · rw [List.length_insertIdx, if_pos h]; simp; omega
  · intro k h1 h2
    rw [List.getElem_insertIdx]
    by_cases a1 : k < i
    · rw [dif_pos a1, List.getElem_append_left (by simp; omega), List.getElem_take]
    · rw [dif_neg a1, List.getElem_append_right (by simp; omega)]
      simp only [List.length_take, Nat.min_eq_left h]
      by_cases a2 : k = i
      · subst a2; simp
      · rw [dif_neg a2]
        obtain ⟨m, hm⟩ : ∃ m, k - i = m + 1 := ⟨k - i - 1, by omega⟩
        simp only [hm, List.getElem_cons_succ, List.getElem_drop]
        congr 1; omega
theorem insM_eq {α : Type} {w : Nat} {xs : List α} {i : Int} {a : α} (h : 0 ≤ i ∧ i ≤ (xs.length : Int)) (hw : (xs.length + 1) * w ≤ 140737488355328 ∧ xs.length + 1 ≤ 4611686018427387904) : insM w xs i a = some (xs.insertIdx i.toNat a) := by
  unfold insM; rw [if_pos ⟨h.1, h.2, hw.1, hw.2⟩, ins_eq (by omega)]
theorem delM_eq {α : Type} {xs : List α} {i : Int} (h : 0 ≤ i ∧ i < (xs.length : Int)) : delM xs i (i + 1) = some (xs.eraseIdx i.toNat) := by
  unfold delM; rw [if_pos ⟨h.1, by omega, by omega, by omega⟩, List.eraseIdx_eq_take_drop_succ]
  congr 3; omega
theorem appM0 {α : Type} {w : Nat} {xs : List α} (h : xs.length * w ≤ 140737488355328 ∧ xs.length ≤ 4611686018427387904) : appM w [] xs = some xs := by
  rw [appM_eq (by simpa using h)]; rfl
section
variable {N : Nat} (hN : 100000000 ≤ N)
include hN
theorem cVI {c : I_Column} (h : c.default.text.size ≤ 5000000) : m_I_Column_valid N c = some (decide (cV c)) := by
  refine bool_eq ?_
  unfold m_I_Column_valid cV
  refine ok.ite (fun k1 => ok.eq (vVI hN h) (ok.ite (fun n0 => ok.ite (fun n1 => ok.some ?_) fun n1 => ok.some ?_) fun n0 => ok.some ?_)) fun k1 => ok.ite (fun k2 => ok.eq (vVI hN h) (ok.ite (fun n0 => ok.ite (fun n1 => ok.some ?_) fun n1 => ok.some ?_) fun n0 => ok.some ?_)) fun k2 => ok.some ?_
  · exact ⟨fun _ => ⟨.inl k1, n0, .inr n1⟩, fun _ => rfl⟩
  · rw [decide_eq_true_eq]; exact ⟨fun e => ⟨.inl k1, n0, .inl e⟩, fun e => by rcases e.2.2 with e | e; exact e; exact (n1 e).elim⟩
  · exact ⟨fun e => (by cases e), fun e => (n0 e.2.1).elim⟩
  · exact ⟨fun _ => ⟨.inr k2, n0, .inr n1⟩, fun _ => rfl⟩
  · rw [decide_eq_true_eq]; exact ⟨fun e => ⟨.inr k2, n0, .inl e⟩, fun e => by rcases e.2.2 with e | e; exact e; exact (n1 e).elim⟩
  · exact ⟨fun e => (by cases e), fun e => (n0 e.2.1).elim⟩
  · exact ⟨fun e => (by cases e), fun e => by rcases e.1 with e | e; exact (k1 e).elim; exact (k2 e).elim⟩
theorem cVS {c : I_Column} (h : c.default.text.size ≤ 5000000) : m_S_validColumn N c = some (decide (cV c)) := by
  refine bool_eq ?_
  unfold m_S_validColumn cV
  refine ok.eq (inRange_eq N _ _ _) (ok.ite (fun k1 => ok.eq (vVS hN h) (ok.ite (fun n0 => ok.ite (fun n1 => ok.some ?_) fun n1 => ok.some ?_) fun n0 => ok.some ?_)) fun k2 => ok.some ?_)
  · exact ⟨fun _ => ⟨by omega, n0, .inl n1⟩, fun _ => rfl⟩
  · rw [decide_eq_true_eq]; exact ⟨fun e => ⟨by omega, n0, .inr e⟩, fun e => by rcases e.2.2 with e | e; exact (n1 e).elim; exact e⟩
  · exact ⟨fun e => (by cases e), fun e => (n0 e.2.1).elim⟩
  · exact ⟨fun e => (by cases e), fun e => by omega⟩
theorem vFI {f : List I_Column} (h : bS f) : m_I_ValidFormat N f = some (decide (vF f)) := by
  have hl := h.1
  refine bool_eq ?_
  unfold m_I_ValidFormat vF
  refine ok.ite (fun h1 => ok.some ⟨fun e => (by cases e), fun e => by omega⟩) fun h1 => ok.ite (fun h2 => ok.some ⟨fun e => (by cases e), fun e => by omega⟩) fun h2 => ?_
  refine ok.call (all_ok (n := f.length) 0 (fun i => ∀ h : i < f.length, cV f[i]) (by omega) (fun i hi _ => ?_) ?_) ?_
  · rw [Int.add_zero]
    show ok (m_I_ValidFormat_b1 N f (i : Int)) _
    unfold m_I_ValidFormat_b1
    refine ok.ift (by omega) (ok.eq (ixI_nat hi) (ok.eq (cVI hN (h.2 _ (List.getElem_mem _))) (ok.ite (fun hc => ok.chk (by omega) (ok.some (.inl ⟨rfl, fun _ => hc⟩))) fun hc => ok.some (.inr ⟨rfl, fun e => hc (e hi)⟩))))
  · rw [Int.add_zero]
    show m_I_ValidFormat_b1 N f _ = _
    unfold m_I_ValidFormat_b1
    rw [decide_eq_false (by omega)]; rfl
  · rintro o (⟨rfl, hh⟩ | ⟨rfl, hh⟩)
    · exact ok.some ⟨fun _ => ⟨by omega, fun i hi => hh i hi hi⟩, fun _ => rfl⟩
    · exact ok.some ⟨fun e => (by cases e), fun e => (hh fun k hk h => e.2 k h).elim⟩
theorem vFS {f : List I_Column} (h : bS f) : m_S_validFormat N f = some (decide (vF f)) := by
  have hl := h.1
  refine bool_eq ?_
  unfold m_S_validFormat vF
  refine ok.call (all_ok (n := f.length) 0 (fun i => ∀ h : i < f.length, cV f[i]) (by omega) (fun i hi _ => ?_) ?_) ?_
  · rw [Int.add_zero]
    show ok (m_S_validFormat_b1 N f (i : Int)) _
    unfold m_S_validFormat_b1
    refine ok.ift (by omega) (ok.eq (ixI_nat hi) (ok.eq (cVS hN (h.2 _ (List.getElem_mem _))) (ok.ite (fun hc => ok.chk (by omega) (ok.some (.inl ⟨rfl, fun _ => hc⟩))) fun hc => ok.some (.inr ⟨rfl, fun e => hc (e hi)⟩))))
  · rw [Int.add_zero]
    show m_S_validFormat_b1 N f _ = _
    unfold m_S_validFormat_b1
    rw [decide_eq_false (by omega)]; rfl
  · rintro o (⟨rfl, hh⟩ | ⟨rfl, hh⟩)
    · refine ok.eq (inRange_eq N _ _ _) (ok.some ?_)
      rw [decide_eq_true_eq]
      exact ⟨fun e => ⟨by omega, fun i hi => hh i hi hi⟩, fun e => by omega⟩
    · exact ok.some ⟨fun e => (by cases e), fun e => (hh fun k hk h => e.2 k h).elim⟩
theorem possI {f : List I_Column} {c : I_Change} (h : c.column.default.text.size ≤ 5000000) : m_I_Change_possible N c f = some (decide (poss f c)) := by
  refine bool_eq ?_
  unfold m_I_Change_possible poss
  refine ok.ite (fun k1 => ok.ite (fun a1 => ok.ite (fun a2 => ok.ite (fun a3 => ok.eq (cVI hN h) (ok.some ?_)) fun a3 => ok.some ?_) fun a2 => ok.some ?_) fun a1 => ok.some ?_) fun k1 => ok.ite (fun k2 => ok.ite (fun a1 => ok.ite (fun a2 => ok.some ?_) fun a2 => ok.some ?_) fun a1 => ok.some ?_) fun k2 => ok.ite (fun k3 => ok.ite (fun a1 => ok.ite (fun a2 => ok.ix a1 a2 fun n hn he => ok.some ?_) fun a2 => ok.some ?_) fun a1 => ok.some ?_) fun k3 => ok.some ?_
  · rw [decide_eq_true_eq]; exact ⟨fun e => .inl ⟨k1, a1, a2, by omega, e⟩, fun e => by rcases e with e | e | e; exact e.2.2.2.2; omega; omega⟩
  · exact ⟨fun e => (by cases e), fun e => by omega⟩
  · exact ⟨fun e => (by cases e), fun e => by omega⟩
  · exact ⟨fun e => (by cases e), fun e => by omega⟩
  · rw [decide_eq_true_eq]; exact ⟨fun e => .inr (.inl ⟨k2, a1, a2, by omega⟩), fun e => by omega⟩
  · exact ⟨fun e => (by cases e), fun e => by omega⟩
  · exact ⟨fun e => (by cases e), fun e => by omega⟩
  · have he' : c.at_.toNat = n := by omega
    subst he'
    rw [decide_eq_true_eq]; exact ⟨fun e => .inr (.inr ⟨k3, a1, hn, e⟩), fun e => by rcases e with e | e | ⟨e1, e2, e3, e4⟩; omega; omega; exact e4⟩
  · exact ⟨fun e => (by cases e), fun e => by rcases e with e | e | ⟨e1, e2, e3, e4⟩ <;> omega⟩
  · exact ⟨fun e => (by cases e), fun e => by omega⟩
  · exact ⟨fun e => (by cases e), fun e => by omega⟩
theorem widI {v : I_Value} (h : vV v) : m_I_WidenValue N v = some (wid v) := by
  have hs := vV_size h
  have hn := vV_num h
  refine ok.val ?_
  unfold m_I_WidenValue wid
  refine ok.eq (vVI hN (by omega)) (ok.ift h (ok.ite (fun k => ok.eq (v := itoaB v.num) ?_ (ok.some ?_)) fun k => ok.some ?_))
  · unfold m_strconv_Itoa; rw [if_pos (by omega)]
  · rw [if_pos k]
  · rw [if_neg k]
theorem widS {v : I_Value} (h : -1000000000 ≤ v.num ∧ v.num ≤ 1000000000) : m_S_widen N v = some (wid v) := by
  refine ok.val ?_
  unfold m_S_widen wid
  refine ok.ite (fun k => ok.eq (decimal_ok (by omega) h) (ok.some ?_)) fun k => ok.some ?_
  · rw [if_pos k]
  · rw [if_neg k]
theorem chFI {f : List I_Column} {c : I_Change} (h : bS f) (hc : c.column.default.text.size ≤ 5000000) : m_I_ChangeFormat N f c = some (if vF f ∧ poss f c then (chF f c, true) else ([], false)) := by
  refine ok.val ?_
  unfold m_I_ChangeFormat
  refine ok.eq (vFI hN h) (ok.ite (fun hv => ok.eq (possI hN hc) (ok.ite (fun hp => ?_) fun hp => ok.some ?_)) fun hv => ok.some ?_)
  · rw [if_pos ⟨hv, hp⟩]
    have hl := hv.1
    refine ok.eq (show m_slices_Clone_I_Column N f = some f from appM0 (by omega)) ?_
    unfold chF
    rcases hp with ⟨k, h1, h2, h3, h4⟩ | ⟨k, h1, h2, h3⟩ | ⟨k, h1, h2, h3⟩
    · refine ok.ift k (ok.eq (insM_eq ⟨h1, h2⟩ (by omega)) (ok.some ?_))
      rw [if_pos k]
    · refine ok.iff (by omega) (ok.ift k (ok.chk (by omega) (ok.eq (delM_eq ⟨h1, h2⟩) (ok.some ?_))))
      rw [if_neg (by omega), if_pos k]
    · refine ok.iff (by omega) (ok.iff (by omega) (ok.eq (ixI_eq (n := c.at_.toNat) (by omega) h2) (ok.eq (widI hN (hv.2 _ _).2.1) (ok.some ?_))))
      rw [if_neg (by omega), if_neg (by omega), mod_eq h2]
  · rw [if_neg fun e => hp e.2]
  · rw [if_neg fun e => hv e.1]
theorem chFS {f : List I_Column} {c : I_Change} (hl : f.length ≤ 5000000) (h : bN f) (hc : c.column.default.text.size ≤ 5000000) : m_S_change N f c = some (if poss f c then (chF f c, true) else ([], false)) := by
  refine ok.val ?_
  unfold m_S_change
  have hcp : ∀ g : List I_Column, g.length ≤ 5000000 → m_S_copyColumns N g = some g := fun g hg => by
    unfold m_S_copyColumns
    rw [appM0 (by omega)]; rfl
  refine ok.ite (fun k => ok.eq (inRange_eq N _ _ _) (ok.ite (fun a => ok.eq (cVS hN hc) (ok.ite (fun b => ok.ite (fun l => ?_) fun l => ok.some ?_) fun b => ok.some ?_)) fun a => ok.some ?_)) fun k => ok.ite (fun k2 => ok.chk (by omega) (ok.eq (inRange_eq N _ _ _) (ok.ite (fun a => ok.ite (fun l => ?_) fun l => ok.some ?_) fun a => ok.some ?_))) fun k2 => ok.ite (fun k3 => ok.chk (by omega) (ok.eq (inRange_eq N _ _ _) (ok.ite (fun a => ok.ix (by omega) (by omega) fun n hn he => ok.ite (fun k1 => ok.eq (hcp _ hl) (ok.eq (ixI_eq he hn) (ok.eq (widS hN (h _ (List.getElem_mem _))) (ok.eq (ixI_eq he hn) (ok.some ?_))))) fun k1 => ok.some ?_) fun a => ok.some ?_))) fun k3 => ok.some ?_
  · have hp : poss f c := .inl ⟨k, a.1, a.2, by omega, b⟩
    rw [if_pos hp]
    refine ok.eq (subM_eq (by omega)) (ok.eq (hcp _ (by simp; omega)) (ok.app (by simp; omega) (ok.eq (subM_eq (by omega)) (ok.app (by simp; omega) (ok.some ?_)))))
    unfold chF
    rw [if_pos k, ← ins_eq (by omega)]
    simp only [Int.toNat_zero, List.drop_zero, Nat.sub_zero, List.append_assoc, List.singleton_append]
    congr 4
    exact List.take_of_length_le (by simp)
  · rw [if_neg]; rintro (e | e | ⟨e1, e2, e3, e4⟩) <;> omega
  · rw [if_neg]; rintro (e | e | ⟨e1, e2, e3, e4⟩); exact b e.2.2.2.2; omega; omega
  · rw [if_neg]; rintro (e | e | ⟨e1, e2, e3, e4⟩) <;> omega
  · have hp : poss f c := .inr (.inl ⟨k2, a.1, by omega, by omega⟩)
    rw [if_pos hp]
    refine ok.eq (subM_eq (by omega)) (ok.eq (hcp _ (by simp; omega)) (ok.chk (by omega) (ok.eq (subM_eq (by omega)) (ok.app (by simp; omega) (ok.some ?_)))))
    unfold chF
    rw [if_neg (by omega), if_pos k2, List.eraseIdx_eq_take_drop_succ]
    simp only [Int.toNat_zero, List.drop_zero, Nat.sub_zero]
    have e : (c.at_ + 1).toNat = c.at_.toNat + 1 := by omega
    rw [e]
    congr 2
    exact List.take_of_length_le (by simp)
  · rw [if_neg]; rintro (e | e | ⟨e1, e2, e3, e4⟩) <;> omega
  · rw [if_neg]; rintro (e | e | ⟨e1, e2, e3, e4⟩) <;> omega
  · obtain rfl : n = c.at_.toNat := by omega
    have hp : poss f c := .inr (.inr ⟨k3, by omega, hn, k1⟩)
    rw [if_pos hp]
    unfold chF
    rw [if_neg (by omega), if_neg (by omega), mod_eq hn]
  · obtain rfl : n = c.at_.toNat := by omega
    rw [if_neg]; rintro (e | e | ⟨e1, e2, e3, e4⟩); omega; omega; exact k1 e4
  · rw [if_neg]; rintro (e | e | ⟨e1, e2, e3, e4⟩) <;> omega
  · rw [if_neg]; rintro (e | e | ⟨e1, e2, e3, e4⟩) <;> omega
end
end V
end Go.Proofs.YtkjnnifnmoekjaaDoor
namespace Go.Proofs.YtkjnnifnmoekjaaDoor
namespace V
set_option linter.unusedVariables false
set_option linter.unusedSimpArgs false
set_option maxHeartbeats 1000000
/-- Format i of a chain. -/
def fA (f : List I_Column) (l : List I_Change) (i : Nat) : List I_Column := (l.take i).foldl chF f
theorem fA_succ (f : List I_Column) {l : List I_Change} {i : Nat} (h : i < l.length) : fA f l (i + 1) = chF (fA f l i) l[i] := by
  unfold fA; rw [take_succ1 h, List.foldl_append]; rfl
/-- All changes are possible. -/
def gC (f : List I_Column) (l : List I_Change) : Prop := ∀ i (h : i < l.length), poss (fA f l i) l[i]
noncomputable instance (f : List I_Column) (l : List I_Change) : Decidable (gC f l) := Classical.propDecidable _
/-- A chain of formats. -/
def cO (f : List I_Column) (l : List I_Change) : Prop := vF f ∧ l.length ≤ 8 ∧ gC f l
noncomputable instance (f : List I_Column) (l : List I_Change) : Decidable (cO f l) := Classical.propDecidable _
/-- The formats of a chain. -/
def chs (f : List I_Column) (l : List I_Change) : List (List I_Column) := (List.range (l.length + 1)).map (fA f l)
theorem chs_len (f : List I_Column) (l : List I_Change) : (chs f l).length = l.length + 1 := by unfold chs; simp
theorem chs_get {f : List I_Column} {l : List I_Change} {i : Nat} (h : i < (chs f l).length) : (chs f l)[i] = fA f l i := by show ((List.range (l.length + 1)).map (fA f l))[i]'(by simpa [chs] using h) = _; simp
theorem chs_ix {f : List I_Column} {l : List I_Change} {i : Int} {n : Nat} (h : i = n) (hn : n ≤ l.length) : ixI (chs f l) i = some (fA f l n) := by
  rw [ixI_eq h (by rw [chs_len]; omega), chs_get]
/-- Texts of changes are not too long. -/
def bCs (l : List I_Change) : Prop := l.length ≤ 5000000 ∧ ∀ c ∈ l, c.column.default.text.size ≤ 5000000
/-- A row that is valid. -/
def vRow (r : List I_Value) : Prop := r.length ≤ 5 ∧ ∀ i (h : i < r.length), vV r[i]
noncomputable instance (r : List I_Value) : Decidable (vRow r) := Classical.propDecidable _
/-- A row is not too large. -/
def bR (r : List I_Value) : Prop := r.length ≤ 5000000 ∧ ∀ v ∈ r, v.text.size ≤ 5000000
theorem fit_bR {f : List I_Column} {r : List I_Value} (h : fitP f r) (hl : f.length ≤ 5000000) : bR r := ⟨by have := h.1; omega, fun v hv => by
  obtain ⟨i, hi, rfl⟩ := List.mem_iff_getElem.1 hv
  have := vV_size (h.2 i hi (by have := h.1; omega)).1; omega⟩
theorem len_chF {f : List I_Column} {c : I_Change} (h : f.length ≤ 5000000) (hp : poss f c) : (chF f c).length ≤ 5000000 := by
  unfold chF
  split
  · rcases hp with e | e | ⟨e1, e2, e3, e4⟩
    · rw [List.length_insertIdx]; split <;> omega
    · omega
    · omega
  · split
    · rw [List.length_eraseIdx]; split <;> omega
    · rw [List.length_modify]; exact h
theorem vF_fA {f : List I_Column} {l : List I_Change} (h : vF f) : ∀ (i : Nat), i ≤ l.length → (∀ k (h : k < l.length), k < i → poss (fA f l k) l[k]) → vF (fA f l i)
  | 0, _, _ => h
  | i + 1, hi, hg => by
    rw [fA_succ f (by omega)]
    exact vF_chF (vF_fA h i (by omega) fun k hk hki => hg k hk (by omega)) (hg i (by omega) (by omega))
theorem bN_fA {f : List I_Column} {l : List I_Change} (h : bN f) (hl : f.length ≤ 5000000) : ∀ (i : Nat), i ≤ l.length → (∀ k (h : k < l.length), k < i → poss (fA f l k) l[k]) → bN (fA f l i) ∧ (fA f l i).length ≤ 5000000
  | 0, _, _ => ⟨h, hl⟩
  | i + 1, hi, hg => by
    rw [fA_succ f (by omega)]
    have h1 := bN_fA h hl i (by omega) fun k hk hki => hg k hk (by omega)
    have h2 := hg i (by omega) (by omega)
    exact ⟨bN_chF h1.1 h2, len_chF h1.2 h2⟩
theorem cO_fA {f : List I_Column} {l : List I_Change} (h : cO f l) {i : Nat} (hi : i ≤ l.length) : vF (fA f l i) := vF_fA h.1 i hi fun k hk _ => h.2.2 k hk
theorem ext_fA {f : List I_Column} {l : List I_Change} {i : Nat} (h : i < l.length) : (List.range (i + 1 + 1)).map (fA f l) = (List.range (i + 1)).map (fA f l) ++ [chF (fA f l i) l[i]] := by
  rw [List.range_succ (n := i + 1), List.map_append, ← fA_succ f h]; rfl
theorem rng_ix {f : List I_Column} {l : List I_Change} {i m : Nat} (h : i ≤ m) : ixI ((List.range (m + 1)).map (fA f l)) (i : Int) = some (fA f l i) := by
  rw [ixI_nat (by simp; omega)]; simp
/-- A row moved from format a to format i. -/
def mA (r : List I_Value) (l : List I_Change) (a i : Nat) : List I_Value := ((l.take i).drop a).foldl mv r
theorem mA_self (r : List I_Value) (l : List I_Change) (a : Nat) : mA r l a a = r := by
  unfold mA; rw [List.drop_eq_nil_of_le (by rw [List.length_take]; omega)]; rfl
theorem mA_succ (r : List I_Value) {l : List I_Change} {a i : Nat} (ha : a ≤ i) (h : i < l.length) : mA r l a (i + 1) = mv (mA r l a i) l[i] := by
  unfold mA; rw [take_succ1 h, List.drop_append_of_le_length (by rw [List.length_take]; omega), List.foldl_append]; rfl
theorem fit_mA {f : List I_Column} {l : List I_Change} {r : List I_Value} {a : Nat} (hg : gC f l) (h : fitP (fA f l a) r) : ∀ (i : Nat), a ≤ i → i ≤ l.length → fitP (fA f l i) (mA r l a i)
  | i, ha, hi => by
    rcases Nat.lt_or_eq_of_le ha with hlt | rfl
    · obtain ⟨i, rfl⟩ : ∃ j, i = j + 1 := ⟨i - 1, by omega⟩
      rw [fA_succ f (by omega), mA_succ r (by omega) (by omega)]
      exact fit_mv (fit_mA hg h i (by omega) (by omega)) (hg i (by omega))
    · rw [mA_self]; exact h
section
variable {N : Nat} (hN : 100000000 ≤ N)
include hN
omit hN in
theorem copyS {g : List I_Column} (hg : g.length ≤ 5000000) : m_S_copyColumns N g = some g := by
  unfold m_S_copyColumns
  rw [appM0 (by omega)]; rfl
theorem formatsS {f : List I_Column} {l : List I_Change} (hl : f.length ≤ 5000000) (hb : bN f) (hc : bCs l) : m_S_formats N f l = some (if gC f l then (chs f l, true) else ([], false)) := by
  have hcl := hc.1
  refine ok.val ?_
  unfold m_S_formats
  refine ok.eq (copyS hl) (ok.call (P := fun o => (o = .inl (chs f l) ∧ gC f l) ∨ (o = .inr ([], false) ∧ ¬ gC f l)) (ok.each l.length (fun i s => s = ((i : Int), (List.range (i + 1)).map (fA f l)) ∧ ∀ k (h : k < l.length), k < i → poss (fA f l k) l[k]) _ ?_ ?_ N 0 _ (Nat.zero_le _) ⟨rfl, fun k h hk => by omega⟩ (by omega)) ?_)
  · rintro i s hi ⟨rfl, hg⟩
    have hf := bN_fA hb hl i (by omega) hg
    show ok (m_S_formats_b1 N l (i : Int) _) _
    unfold m_S_formats_b1
    refine ok.ift (by omega) (ok.eq (rng_ix (Nat.le_refl _)) (ok.eq (ixI_nat hi) (ok.eq (chFS hN hf.2 hf.1 (hc.2 _ (List.getElem_mem _))) ?_)))
    by_cases hp : poss (fA f l i) l[i]
    · rw [if_pos hp]
      refine ok.bt rfl (ok.app (by simp; omega) (ok.chk (by omega) (ok.some ⟨?_, fun k hk hki => ?_⟩)))
      · rw [ext_fA hi]; simp
      · rcases Nat.lt_succ_iff_lt_or_eq.1 hki with h | rfl
        · exact hg k hk h
        · exact hp
    · rw [if_neg hp]
      exact ok.bf rfl (ok.some (.inr ⟨rfl, fun h => hp (h i hi)⟩))
  · rintro s ⟨rfl, hg⟩
    show ok (m_S_formats_b1 N l _ _) _
    unfold m_S_formats_b1
    exact ok.iff (by omega) (ok.some (.inl ⟨rfl, fun k hk => hg k hk hk⟩))
  · rintro o (⟨rfl, h⟩ | ⟨rfl, h⟩)
    · rw [if_pos h]; exact ok.some rfl
    · rw [if_neg h]; exact ok.some rfl
theorem chainI {f : List I_Column} {l : List I_Change} (hb : bS f) (hc : bCs l) : m_I_ChainOf N f l = some (if cO f l then (chs f l, true) else ([], false)) := by
  have hcl := hc.1
  have hl := hb.1
  refine ok.val ?_
  unfold m_I_ChainOf
  refine ok.eq (vFI hN hb) (ok.ite (fun hv => ok.ite (fun h8 => ok.some ?_) fun h8 => ?_) fun hv => ok.some ?_)
  · rw [if_neg fun e : cO f l => by have := e.2.1; omega]
  · refine ok.eq (show m_slices_Clone_I_Column N f = some f from appM0 (by omega)) (ok.call (P := fun o => (o = .inl (chs f l) ∧ gC f l) ∨ (o = .inr ([], false) ∧ ¬ gC f l)) (ok.each l.length (fun i s => s = ((i : Int), (List.range (i + 1)).map (fA f l)) ∧ ∀ k (h : k < l.length), k < i → poss (fA f l k) l[k]) _ ?_ ?_ N 0 _ (Nat.zero_le _) ⟨rfl, fun k h hk => by omega⟩ (by omega)) ?_)
    · rintro i s hi ⟨rfl, hg⟩
      have hf := vF_fA hv i (by omega) hg
      show ok (m_I_ChainOf_b1 N l (i : Int) _) _
      unfold m_I_ChainOf_b1
      refine ok.ift (by omega) (ok.eq (ixI_nat hi) (ok.eq (rng_ix (Nat.le_refl _)) (ok.eq (chFI hN (vF_bS hf) (hc.2 _ (List.getElem_mem _))) ?_)))
      by_cases hp : poss (fA f l i) l[i]
      · rw [if_pos ⟨hf, hp⟩]
        refine ok.bt rfl (ok.app (by simp; omega) (ok.chk (by omega) (ok.some ⟨?_, fun k hk hki => ?_⟩)))
        · rw [ext_fA hi]; simp
        · rcases Nat.lt_succ_iff_lt_or_eq.1 hki with h | rfl
          · exact hg k hk h
          · exact hp
      · rw [if_neg fun e => hp e.2]
        exact ok.bf rfl (ok.some (.inr ⟨rfl, fun h => hp (h i hi)⟩))
    · rintro s ⟨rfl, hg⟩
      show ok (m_I_ChainOf_b1 N l _ _) _
      unfold m_I_ChainOf_b1
      exact ok.iff (by omega) (ok.some (.inl ⟨rfl, fun k hk => hg k hk hk⟩))
    · rintro o (⟨rfl, h⟩ | ⟨rfl, h⟩)
      · rw [if_pos (show cO f l from ⟨hv, by omega, h⟩)]; exact ok.some rfl
      · rw [if_neg fun e : cO f l => h e.2.2]; exact ok.some rfl
  · rw [if_neg fun e : cO f l => hv e.1]
theorem vchainS {f : List I_Column} {l : List I_Change} (hb : bS f) (hc : bCs l) : m_S_validChain N f l = some (decide (cO f l)) := by
  refine bool_eq ?_
  unfold m_S_validChain
  refine ok.eq (vFS hN hb) (ok.ite (fun hv => ok.ite (fun h8 => ok.some ?_) fun h8 => ok.eq (formatsS hN hb.1 (vF_bN hv) hc) (ok.some ?_)) fun hv => ok.some ?_)
  · exact ⟨fun e => (by cases e), fun e => by have := e.2.1; omega⟩
  · by_cases hg : gC f l
    · rw [if_pos hg]; exact ⟨fun _ => ⟨hv, by omega, hg⟩, fun _ => rfl⟩
    · rw [if_neg hg]; exact ⟨fun e => (by cases e), fun e => (hg e.2.2).elim⟩
  · exact ⟨fun e => (by cases e), fun e => (hv e.1).elim⟩
theorem fitI {f : List I_Column} {r : List I_Value} (hb : bS f) (hr : bR r) : m_I_RowFits N f r = some (decide (vF f ∧ fitP f r)) := by
  have hrl := hr.1
  refine bool_eq ?_
  unfold m_I_RowFits fitP
  refine ok.eq (vFI hN hb) (ok.ite (fun hv => ok.ite (fun hl => ?_) fun hl => ok.some ⟨fun e => (by cases e), fun e => by have := e.2.1; omega⟩) fun hv => ok.some ⟨fun e => (by cases e), fun e => (hv e.1).elim⟩)
  refine ok.call (all_ok (n := r.length) 0 (fun i => ∀ (h : i < r.length) (h' : i < f.length), vV r[i] ∧ (r[i].kind = 0 ∨ r[i].kind = f[i].kind)) (by omega) (fun i hi _ => ?_) ?_) ?_
  · rw [Int.add_zero]
    have hi' : i < f.length := by omega
    show ok (m_I_RowFits_b1 N f r (i : Int)) _
    unfold m_I_RowFits_b1
    refine ok.ift (by omega) (ok.eq (ixI_nat hi) (ok.eq (vVI hN (hr.2 _ (List.getElem_mem _))) (ok.ite (fun hc => ok.ite (fun k0 => ok.chk (by omega) (ok.some (.inl ⟨rfl, fun _ _ => ⟨hc, .inl k0⟩⟩))) fun k0 => ok.eq (ixI_nat hi') (ok.ite (fun k1 => ok.chk (by omega) (ok.some (.inl ⟨rfl, fun _ _ => ⟨hc, .inr k1⟩⟩))) fun k1 => ok.some (.inr ⟨rfl, fun e => ?_⟩))) fun hc => ok.some (.inr ⟨rfl, fun e => hc (e hi hi').1⟩))))
    rcases (e hi hi').2 with e | e
    · exact k0 e
    · exact k1 e
  · rw [Int.add_zero]
    show m_I_RowFits_b1 N f r _ = _
    unfold m_I_RowFits_b1
    rw [decide_eq_false (by omega)]; rfl
  · rintro o (⟨rfl, hh⟩ | ⟨rfl, hh⟩)
    · exact ok.some ⟨fun _ => ⟨hv, by omega, fun i hi => hh i hi hi⟩, fun _ => rfl⟩
    · exact ok.some ⟨fun e => (by cases e), fun e => (hh fun k hk h => e.2.2 k h).elim⟩
theorem vrowS {r : List I_Value} (hr : bR r) : m_S_validRow N r = some (decide (vRow r)) := by
  have hrl := hr.1
  refine bool_eq ?_
  unfold m_S_validRow vRow
  refine ok.call (all_ok (n := r.length) 0 (fun i => ∀ (h : i < r.length), vV r[i]) (by omega) (fun i hi _ => ?_) ?_) ?_
  · rw [Int.add_zero]
    show ok (m_S_validRow_b1 N r (i : Int)) _
    unfold m_S_validRow_b1
    refine ok.ift (by omega) (ok.eq (ixI_nat hi) (ok.eq (vVS hN (hr.2 _ (List.getElem_mem _))) (ok.ite (fun hc => ok.chk (by omega) (ok.some (.inl ⟨rfl, fun _ => hc⟩))) fun hc => ok.some (.inr ⟨rfl, fun e => hc (e hi)⟩))))
  · rw [Int.add_zero]
    show m_S_validRow_b1 N r _ = _
    unfold m_S_validRow_b1
    rw [decide_eq_false (by omega)]; rfl
  · rintro o (⟨rfl, hh⟩ | ⟨rfl, hh⟩)
    · refine ok.some ?_
      rw [decide_eq_true_eq]
      exact ⟨fun e => ⟨by omega, fun i hi => hh i hi hi⟩, fun e => by have := e.1; omega⟩
    · exact ok.some ⟨fun e => (by cases e), fun e => (hh fun k hk h => e.2 k h).elim⟩
theorem fitS {f : List I_Column} {r : List I_Value} (hr : bR r) (hf : f.length ≤ 5) : m_S_fits N f r = some (decide (fitP f r)) := by
  have hrl := hr.1
  refine bool_eq ?_
  unfold m_S_fits
  refine ok.ite (fun hl => ?_) fun hl => ok.some ⟨fun e => (by cases e), fun e => by have := e.1; omega⟩
  refine ok.eq (vrowS hN hr) (ok.ite (fun hv => ?_) fun hv => ok.some ⟨fun e => (by cases e), fun e => (hv ⟨by omega, fun i hi => (e.2 i hi (by omega)).1⟩).elim⟩)
  unfold fitP
  refine ok.call (all_ok (n := r.length) 0 (fun i => ∀ (h : i < r.length) (h' : i < f.length), vV r[i] ∧ (r[i].kind = 0 ∨ r[i].kind = f[i].kind)) (by omega) (fun i hi _ => ?_) ?_) ?_
  · rw [Int.add_zero]
    have hi' : i < f.length := by omega
    have hc := hv.2 i hi
    show ok (m_S_fits_b1 N f r (i : Int)) _
    unfold m_S_fits_b1
    refine ok.ift (by omega) (ok.eq (ixI_nat hi) (ok.ite (fun k0 => ok.chk (by omega) (ok.some (.inl ⟨rfl, fun _ _ => ⟨hc, .inl k0⟩⟩))) fun k0 => ok.eq (ixI_nat hi) (ok.eq (ixI_nat hi') (ok.ite (fun k1 => ok.chk (by omega) (ok.some (.inl ⟨rfl, fun _ _ => ⟨hc, .inr k1⟩⟩))) fun k1 => ok.some (.inr ⟨rfl, fun e => ?_⟩)))))
    rcases (e hi hi').2 with e | e
    · exact k0 e
    · exact k1 e
  · rw [Int.add_zero]
    show m_S_fits_b1 N f r _ = _
    unfold m_S_fits_b1
    rw [decide_eq_false (by omega)]; rfl
  · rintro o (⟨rfl, hh⟩ | ⟨rfl, hh⟩)
    · exact ok.some ⟨fun _ => ⟨by omega, fun i hi => hh i hi hi⟩, fun _ => rfl⟩
    · exact ok.some ⟨fun e => (by cases e), fun e => (hh fun k hk h => e.2 k h).elim⟩
theorem chrowI {f : List I_Column} {r : List I_Value} {c : I_Change} (hv : vF f) (hf : fitP f r) (hp : poss f c) (hc : c.column.default.text.size ≤ 5000000) : m_I_ChangeRow N f r c = some (mv r c, true) := by
  have hl := hv.1
  have hrl := hf.1
  refine ok.val ?_
  unfold m_I_ChangeRow
  refine ok.eq (fitI hN (vF_bS hv) (fit_bR hf (by omega))) (ok.ift ⟨hv, hf⟩ (ok.eq (possI hN hc) (ok.ift hp (ok.eq (show m_slices_Clone_I_Value N r = some r from appM0 (by omega)) ?_))))
  unfold mv
  rcases hp with ⟨k, h1, h2, h3, h4⟩ | ⟨k, h1, h2, h3⟩ | ⟨k, h1, h2, h3⟩
  · refine ok.ift k (ok.eq (insM_eq ⟨h1, by omega⟩ (by omega)) (ok.some ?_))
    rw [if_pos k]
  · refine ok.iff (by omega) (ok.ift k (ok.chk (by omega) (ok.eq (delM_eq ⟨h1, by omega⟩) (ok.some ?_))))
    rw [if_neg (by omega), if_pos k]
  · have h2' : c.at_.toNat < r.length := by omega
    refine ok.iff (by omega) (ok.iff (by omega) (ok.eq (ixI_eq (n := c.at_.toNat) (by omega) h2') (ok.eq (widI hN (hf.2 _ h2' h2).1) (ok.some ?_))))
    rw [if_neg (by omega), if_neg (by omega), mod_eq h2']
theorem moveS {f : List I_Column} {r : List I_Value} {c : I_Change} (hv : vF f) (hf : fitP f r) (hp : poss f c) : m_S_move N r c = some (mv r c) := by
  have hl := hv.1
  have hrl := hf.1
  have hat := poss_at hp
  refine ok.val ?_
  unfold m_S_move
  refine ok.eq (subM_eq (by omega)) (ok.eq (appM0 (by simp; omega)) ?_)
  unfold mv
  rcases hp with ⟨k, h1, h2, h3, h4⟩ | ⟨k, h1, h2, h3⟩ | ⟨k, h1, h2, h3⟩
  · refine ok.ift k (ok.app (by simp; omega) (ok.eq (subM_eq (by omega)) (ok.app (by simp; omega) (ok.some ?_))))
    rw [if_pos k, ← ins_eq (by omega)]
    simp only [Int.toNat_zero, List.drop_zero, Nat.sub_zero, List.append_assoc, List.singleton_append]
    congr 2
    exact List.take_of_length_le (by simp)
  · refine ok.iff (by omega) (ok.iff (by omega) (ok.chk (by omega) (ok.eq (subM_eq (by omega)) (ok.app (by simp; omega) (ok.some ?_)))))
    rw [if_neg (by omega), if_pos k, List.eraseIdx_eq_take_drop_succ]
    have e : (c.at_ + 1).toNat = c.at_.toNat + 1 := by omega
    simp only [Int.toNat_zero, List.drop_zero, Nat.sub_zero, e]
    congr 1
    exact List.take_of_length_le (by simp)
  · have h2' : c.at_.toNat < r.length := by omega
    have hn := vV_num (hf.2 _ h2' h2).1
    refine ok.iff (by omega) (ok.ift k (ok.eq (ixI_eq (n := c.at_.toNat) (by omega) h2') (ok.eq (widS hN (by omega)) (ok.app (by simp; omega) (ok.chk (by omega) (ok.eq (subM_eq (by omega)) (ok.app (by simp; omega) (ok.some ?_))))))))
    rw [if_neg (by omega), if_neg (by omega), List.modify_eq_take_cons_drop h2']
    have e : (c.at_ + 1).toNat = c.at_.toNat + 1 := by omega
    simp only [Int.toNat_zero, List.drop_zero, Nat.sub_zero, e, List.append_assoc, List.singleton_append]
    congr 2
    exact List.take_of_length_le (by simp)
theorem readI {f : List I_Column} {l : List I_Change} {r : List I_Value} {a : Int} {n : Nat} (ho : cO f l) (hc : bCs l) (ha : a = n) (hn : n ≤ l.length) (hf : fitP (fA f l n) r) : m_I_ReadRow N f l a (l.length : Int) r = some (mA r l n l.length, true) := by
  subst ha
  have hcl := hc.1
  have hvn := cO_fA ho hn
  have hrl := hf.1
  have hvl := hvn.1
  refine ok.val ?_
  unfold m_I_ReadRow
  refine ok.eq (chainI hN (vF_bS ho.1) hc) ?_
  rw [if_pos ho]
  have hlen := chs_len f l
  refine ok.bt rfl (ok.iff (by omega) (ok.iff (by omega) (ok.iff (by dsimp only; omega) (ok.eq (chs_ix rfl hn) (ok.eq (fitI hN (vF_bS hvn) (fit_bR hf (by omega))) (ok.ift ⟨hvn, hf⟩ (ok.eq (show m_slices_Clone_I_Value N r = some r from appM0 (by omega)) ?_)))))))
  refine ok.call (P := fun o => o = .inl (mA r l n l.length)) (ok.each (l.length - n) (fun i s => s = (((n + i : Nat) : Int), mA r l n (n + i))) _ ?_ ?_ N 0 _ (Nat.zero_le _) (by rw [Nat.add_zero, mA_self]) (by omega)) ?_
  · rintro i s hi rfl
    show ok (m_I_ReadRow_b1 N l _ _ _ _) _
    unfold m_I_ReadRow_b1
    refine ok.ift (by omega) (ok.eq (chs_ix rfl (by omega)) (ok.eq (ixI_nat (by omega)) (ok.eq (chrowI hN (cO_fA ho (by omega)) (fit_mA ho.2.2 hf _ (by omega) (by omega)) (ho.2.2 (n + i) (by omega)) (hc.2 _ (List.getElem_mem _))) (ok.bt rfl (ok.chk (by omega) (ok.some ?_))))))
    rw [show n + (i + 1) = n + i + 1 from rfl, mA_succ r (by omega) (by omega)]; simp
  · rintro s rfl
    show ok (m_I_ReadRow_b1 N l _ _ _ _) _
    unfold m_I_ReadRow_b1
    refine ok.iff (by omega) (ok.some ?_)
    rw [show n + (l.length - n) = l.length by omega]
  · rintro o rfl
    exact ok.some rfl
theorem advS {f : List I_Column} {l : List I_Change} {r : List I_Value} {n : Nat} (ho : cO f l) (hn : n ≤ l.length) (hf : fitP (fA f l n) r) : m_S_advance N r (l.drop n) = some (mA r l n l.length) := by
  have h8 := ho.2.1
  have hvn := cO_fA ho hn
  have hrl := hf.1
  have hvl := hvn.1
  refine ok.val ?_
  unfold m_S_advance
  refine ok.eq (appM0 (by omega)) (ok.call (P := fun o => o = mA r l n l.length) (ok.each (l.length - n) (fun i s => s = ((i : Int), mA r l n (n + i))) _ ?_ ?_ N 0 _ (Nat.zero_le _) (by rw [Nat.add_zero, mA_self]; rfl) (by omega)) ?_)
  · rintro i s hi rfl
    show ok (m_S_advance_b1 N _ _ _) _
    unfold m_S_advance_b1
    have hd : i < (l.drop n).length := by simp; omega
    refine ok.ift (by simp; omega) (ok.eq (ixI_nat hd) ?_)
    have e : (l.drop n)[i] = l[n + i] := List.getElem_drop
    rw [e]
    refine ok.eq (moveS hN (cO_fA ho (by omega)) (fit_mA ho.2.2 hf _ (by omega) (by omega)) (ho.2.2 (n + i) (by omega))) (ok.chk (by omega) (ok.some ?_))
    rw [show n + (i + 1) = n + i + 1 from rfl, mA_succ r (by omega) (by omega)]; simp
  · rintro s rfl
    show ok (m_S_advance_b1 N _ _ _) _
    unfold m_S_advance_b1
    refine ok.iff (by simp) (ok.some ?_)
    rw [show n + (l.length - n) = l.length by omega]
  · rintro o rfl
    exact ok.some rfl
end
end V
end Go.Proofs.YtkjnnifnmoekjaaDoor
namespace Go.Proofs.YtkjnnifnmoekjaaDoor
namespace V
set_option linter.unusedVariables false
set_option linter.unusedSimpArgs false
set_option maxHeartbeats 1000000
/-- A row of a table that is valid. -/
def rV (t : I_Table) (r : I_Tagged) : Prop := 0 ≤ r.tag ∧ r.tag ≤ t.changes.length ∧ fitP (fA t.first t.changes r.tag.toNat) r.row
noncomputable instance (t : I_Table) (r : I_Tagged) : Decidable (rV t r) := Classical.propDecidable _
/-- A table that is valid. -/
def tV (t : I_Table) : Prop := cO t.first t.changes ∧ t.rows.length ≤ 10 ∧ ∀ i (h : i < t.rows.length), rV t t.rows[i]
noncomputable instance (t : I_Table) : Decidable (tV t) := Classical.propDecidable _
/-- A table is not too large. -/
structure bT (t : I_Table) : Prop where
  f : bS t.first
  c : bCs t.changes
  rl : t.rows.length ≤ 5000000
  r : ∀ i (h : i < t.rows.length), bR t.rows[i].row
/-- The last format. -/
def fL (t : I_Table) : List I_Column := fA t.first t.changes t.changes.length
theorem fL_v {t : I_Table} (h : tV t) : vF (fL t) := cO_fA h.1 (Nat.le_refl _)
theorem rV_bR {t : I_Table} {r : I_Tagged} (ho : cO t.first t.changes) (h : rV t r) : bR r.row := by
  have := (cO_fA ho (i := r.tag.toNat) (by have := h.2.1; omega)).1
  exact fit_bR h.2.2 (by omega)
/-- A row in the last format. -/
def adv (t : I_Table) (r : I_Tagged) : List I_Value := mA r.row t.changes r.tag.toNat t.changes.length
theorem adv_fit {t : I_Table} {r : I_Tagged} (h : tV t) (hr : rV t r) : fitP (fL t) (adv t r) := fit_mA h.1.2.2 hr.2.2 _ (by have := hr.2.1; omega) (Nat.le_refl _)
section
variable {α β : Type} (o : α → Bool) (a : α → α)
end
/-- The rows of a table in the last format. -/
noncomputable def tR (t : I_Table) : List (List I_Value) := if tV t then t.rows.map (adv t) else []
theorem fA_app (f : List I_Column) {l : List I_Change} (c : I_Change) {i : Nat} (h : i ≤ l.length) : fA f (l ++ [c]) i = fA f l i := by
  unfold fA; rw [List.take_append_of_le_length h]
theorem gC_app {f : List I_Column} {l : List I_Change} {c : I_Change} : gC f (l ++ [c]) ↔ gC f l ∧ poss (fA f l l.length) c := by
  constructor
  · intro h
    refine ⟨fun i hi => ?_, ?_⟩
    · have := h i (by simp; omega)
      rw [fA_app f c (by omega), List.getElem_append_left hi] at this; exact this
    · have := h l.length (by simp)
      rw [fA_app f c (Nat.le_refl _), List.getElem_append_right (Nat.le_refl _)] at this
      simpa using this
  · rintro ⟨h1, h2⟩ i hi
    rw [List.length_append, List.length_singleton] at hi
    rw [fA_app f c (by omega)]
    rcases Nat.lt_succ_iff_lt_or_eq.1 hi with h | rfl
    · rw [List.getElem_append_left h]; exact h1 i h
    · rw [List.getElem_append_right (Nat.le_refl _)]
      simp only [Nat.sub_self, List.getElem_cons_zero]; exact h2
section
variable {N : Nat} (hN : 100000000 ≤ N)
include hN
theorem lastI {t : I_Table} (hb : bT t) : m_I_Table_lastFormat N t = some (if tV t then (fL t, true) else ([], false)) := by
  have hcl := hb.c.1
  have hrl := hb.rl
  refine ok.val ?_
  unfold m_I_Table_lastFormat
  refine ok.eq (chainI hN hb.f hb.c) ?_
  by_cases ho : cO t.first t.changes
  · rw [if_pos ho]
    have hlen := chs_len t.first t.changes
    refine ok.bt rfl (ok.ite (fun h10 => ok.some ?_) fun h10 => ?_)
    · rw [if_neg fun e : tV t => by have := e.2.1; omega]
    · refine ok.call (P := fun o => (o = .inl () ∧ ∀ i (h : i < t.rows.length), rV t t.rows[i]) ∨ (o = .inr ([], false) ∧ ¬ ∀ i (h : i < t.rows.length), rV t t.rows[i])) (ok.each t.rows.length (fun i s => s = (i : Int) ∧ ∀ k (h : k < t.rows.length), k < i → rV t t.rows[k]) _ ?_ ?_ N 0 _ (Nat.zero_le _) ⟨rfl, fun k h hk => by omega⟩ (by omega)) ?_
      · rintro i s hi ⟨rfl, hg⟩
        show ok (m_I_Table_lastFormat_b1 N t _ (i : Int)) _
        unfold m_I_Table_lastFormat_b1
        refine ok.ift (by omega) (ok.eq (ixI_nat hi) (ok.ite (fun c1 => ok.some (.inr ⟨rfl, fun e => by have := (e i hi).1; omega⟩)) fun c1 => ok.ite (fun c2 => ok.some (.inr ⟨rfl, fun e => ?_⟩)) fun c2 => ?_))
        · have := (e i hi).2.1
          dsimp only at c2; omega
        · have hr := hb.r i hi
          dsimp only at c2
          have hv := cO_fA ho (i := t.rows[i].tag.toNat) (by omega)
          refine ok.eq (chs_ix (n := t.rows[i].tag.toNat) (by omega) (by omega)) (ok.eq (fitI hN (vF_bS hv) hr) (ok.ite (fun c3 => ok.chk (by omega) (ok.some ⟨by simp, fun k hk hki => ?_⟩)) fun c3 => ok.some (.inr ⟨rfl, fun e => c3 ⟨hv, (e i hi).2.2⟩⟩)))
          rcases Nat.lt_succ_iff_lt_or_eq.1 hki with h | rfl
          · exact hg k hk h
          · exact ⟨by omega, by omega, c3.2⟩
      · rintro s ⟨rfl, hg⟩
        show ok (m_I_Table_lastFormat_b1 N t _ _) _
        unfold m_I_Table_lastFormat_b1
        exact ok.iff (by omega) (ok.some (.inl ⟨rfl, fun k hk => hg k hk hk⟩))
      · rintro o (⟨rfl, h⟩ | ⟨rfl, h⟩)
        · rw [if_pos (show tV t from ⟨ho, by omega, h⟩)]
          show ok (m_I_Table_lastFormat_k1 N t _) _
          unfold m_I_Table_lastFormat_k1
          refine ok.eq (show m_I_Table_last N t = some (t.changes.length : Int) from rfl) (ok.eq (chs_ix rfl (Nat.le_refl _)) (ok.some rfl))
        · rw [if_neg fun e : tV t => h e.2.2]; exact ok.some rfl
  · rw [if_neg ho, if_neg fun e : tV t => ho e.1]
    exact ok.bf rfl (ok.some rfl)
theorem validTI {t : I_Table} (hb : bT t) : m_I_ValidTable N t = some (decide (tV t)) := by
  refine ok.val ?_
  unfold m_I_ValidTable
  refine ok.eq (lastI hN hb) (ok.some ?_)
  by_cases h : tV t
  · rw [if_pos h, decide_eq_true h]
  · rw [if_neg h, decide_eq_false h]
theorem validTS {t : I_Table} (hb : bT t) : m_S_validTable N t = some (decide (tV t)) := by
  have hcl := hb.c.1
  have hrl := hb.rl
  refine bool_eq ?_
  unfold m_S_validTable
  refine ok.eq (vchainS hN hb.f hb.c) (ok.ite (fun ho => ok.ite (fun h10 => ok.some ⟨fun e => (by cases e), fun e => by have := e.2.1; omega⟩) fun h10 => ?_) fun ho => ok.some ⟨fun e => (by cases e), fun e => (ho e.1).elim⟩)
  refine ok.eq (formatsS hN hb.f.1 (vF_bN ho.1) hb.c) ?_
  rw [if_pos ho.2.2]
  refine ok.call (all_ok (n := t.rows.length) 0 (fun i => ∀ (h : i < t.rows.length), rV t t.rows[i]) (by omega) (fun i hi _ => ?_) ?_) ?_
  · rw [Int.add_zero]
    show ok (m_S_validTable_b1 N t _ (i : Int)) _
    unfold m_S_validTable_b1
    refine ok.ift (by omega) (ok.eq (ixI_nat hi) (ok.eq (inRange_eq N _ _ _) (ok.ite (fun c1 => ?_) fun c1 => ok.some (.inr ⟨rfl, fun e => c1 ⟨(e hi).1, (e hi).2.1⟩⟩))))
    have hr := hb.r i hi
    have hv := cO_fA ho (i := t.rows[i].tag.toNat) (by omega)
    refine ok.eq (ixI_nat hi) (ok.eq (chs_ix (n := t.rows[i].tag.toNat) (by omega) (by omega)) (ok.eq (ixI_nat hi) (ok.eq (fitS hN hr hv.1.2) (ok.ite (fun c3 => ok.chk (by omega) (ok.some (.inl ⟨rfl, fun _ => ⟨c1.1, c1.2, c3⟩⟩))) fun c3 => ok.some (.inr ⟨rfl, fun e => c3 (e hi).2.2⟩)))))
  · rw [Int.add_zero]
    show m_S_validTable_b1 N t _ _ = _
    unfold m_S_validTable_b1
    rw [decide_eq_false (by omega)]; rfl
  · rintro o (⟨rfl, hh⟩ | ⟨rfl, hh⟩)
    · exact ok.some ⟨fun _ => ⟨ho, by omega, fun i hi => hh i hi hi⟩, fun _ => rfl⟩
    · exact ok.some ⟨fun e => (by cases e), fun e => (hh fun k hk h => e.2.2 k h).elim⟩
theorem read1I {t : I_Table} {r : I_Tagged} (h : tV t) (hc : bCs t.changes) (hr : rV t r) : m_I_Table_read N t r = some (adv t r) := by
  unfold m_I_Table_read
  refine ok.val ?_
  refine ok.eq (show m_I_Table_last N t = some (t.changes.length : Int) from rfl) (ok.eq (readI hN h.1 hc (n := r.tag.toNat) (by have := hr.1; omega) (by have := hr.2.1; omega) hr.2.2) (ok.some rfl))
theorem adv1S {t : I_Table} {r : I_Tagged} (h : tV t) (hr : rV t r) : m_S_advance N r.row (t.changes.drop r.tag.toNat) = some (adv t r) := advS hN h.1 (by have := hr.2.1; omega) hr.2.2
omit hN in
theorem map_take {α β : Type} (f : α → β) {xs : List α} {i : Nat} (h : i < xs.length) : (xs.take (i + 1)).map f = (xs.take i).map f ++ [f xs[i]] := by rw [take_succ1 h, List.map_append]; rfl
theorem rowsI {t : I_Table} (hb : bT t) : m_I_TableRows N t = some (tR t) := by
  have hrl := hb.rl
  refine ok.val ?_
  unfold m_I_TableRows tR
  refine ok.eq (validTI hN hb) (ok.ite (fun h => ?_) fun h => ok.some (by rw [if_neg h]))
  rw [if_pos h]
  refine ok.call (P := fun o => o = t.rows.map (adv t)) (ok.each t.rows.length (fun i s => s = ((i : Int), (t.rows.take i).map (adv t))) _ ?_ ?_ N 0 _ (Nat.zero_le _) rfl (by omega)) ?_
  · rintro i s hi rfl
    show ok (m_I_TableRows_b1 N t (i : Int) _) _
    unfold m_I_TableRows_b1
    refine ok.ift (by omega) (ok.eq (ixI_nat hi) (ok.eq (read1I hN h hb.c (h.2.2 i hi)) (ok.app (by simp; omega) (ok.chk (by omega) (ok.some ?_)))))
    rw [map_take _ hi]; simp
  · rintro s rfl
    show ok (m_I_TableRows_b1 N t _ _) _
    unfold m_I_TableRows_b1
    refine ok.iff (by omega) (ok.some ?_)
    rw [List.take_length]
  · rintro o rfl
    exact ok.some rfl
theorem latestS {t : I_Table} (h : tV t) : m_S_latest N t = some (t.rows.map (adv t)) := by
  have hrl := h.2.1
  have h8 := h.1.2.1
  refine ok.val ?_
  unfold m_S_latest
  refine ok.call (P := fun o => o = t.rows.map (adv t)) (ok.each t.rows.length (fun i s => s = ((i : Int), (t.rows.take i).map (adv t))) _ ?_ ?_ N 0 _ (Nat.zero_le _) rfl (by omega)) ?_
  · rintro i s hi rfl
    show ok (m_S_latest_b1 N t (i : Int) _) _
    unfold m_S_latest_b1
    have hr := h.2.2 i hi
    have h1 := hr.1
    have h2 := hr.2.1
    refine ok.ift (by omega) (ok.eq (ixI_nat hi) (ok.eq (ixI_nat hi) (ok.eq (subM_eq (by omega)) ?_)))
    rw [Int.toNat_natCast, List.take_of_length_le (by rw [List.length_drop]; exact Nat.le_refl _)]
    refine ok.eq (adv1S hN h hr) (ok.app (by simp; omega) (ok.chk (by omega) (ok.some ?_)))
    rw [map_take _ hi]; simp
  · rintro s rfl
    show ok (m_S_latest_b1 N t _ _) _
    unfold m_S_latest_b1
    refine ok.iff (by omega) (ok.some ?_)
    rw [List.take_length]
  · rintro o rfl
    exact ok.some rfl
end
end V
end Go.Proofs.YtkjnnifnmoekjaaDoor
namespace Go.Proofs.YtkjnnifnmoekjaaDoor
namespace V
set_option linter.unusedVariables false
set_option linter.unusedSimpArgs false
set_option maxHeartbeats 1000000
/-- A loop that finds nothing to stop at. -/
theorem loop_self {body : Int → Option (Int ⊕ (Unit ⊕ Bool))} {N n : Nat} (hN : n < N) (h : ∀ i, i < n → body (i : Int) = some (.inl ((i : Int) + 1))) (he : body (n : Int) = some (.inr (.inl ()))) : loopM body N (0 : Int) = some (.inl ()) := by
  have : ok (loopM body N (0 : Int)) fun o => o = .inl () := by
    refine ok.each n (fun i s => s = (i : Int)) _ ?_ ?_ N 0 _ (Nat.zero_le _) rfl (by omega)
    · rintro i s hi rfl
      rw [h i hi]; exact ok.some (by simp)
    · rintro s rfl
      rw [he]; exact ok.some rfl
  exact ok.val this
section
variable {N : Nat} (hN : 100000000 ≤ N)
include hN
end
end V
end Go.Proofs.YtkjnnifnmoekjaaDoor
namespace Go.Proofs.YtkjnnifnmoekjaaDoor
namespace V
set_option linter.unusedVariables false
set_option linter.unusedSimpArgs false
set_option maxHeartbeats 1000000
/-- A reader that has not gone beyond c. -/
def RdB (r : S_reader) (c : Int) : Prop := r.b.length ≤ 2000 ∧ 0 ≤ r.p ∧ r.p ≤ c
theorem RdB.mono {r : S_reader} {c d : Int} (h : RdB r c) (hd : c ≤ d) : RdB r d := ⟨h.1, h.2.1, by have := h.2.2; omega⟩
/-- A value that is not too large. -/
def bV (v : I_Value) : Prop := (-1000000000 ≤ v.num ∧ v.num ≤ 1000000000) ∧ v.text.size ≤ 5000000
def bFm (f : List I_Column) (n : Nat) : Prop := f.length ≤ n ∧ ∀ c ∈ f, bV c.default
theorem bFm.bN {f : List I_Column} {n : Nat} (h : bFm f n) : bN f := fun c hc => (h.2 c hc).1
theorem bFm.bS {f : List I_Column} {n : Nat} (h : bFm f n) (hn : n ≤ 100) : bS f := ⟨by have := h.1; omega, fun c hc => (h.2 c hc).2⟩
theorem bFm.mono {f : List I_Column} {n m : Nat} (h : bFm f n) (hn : n ≤ m) : bFm f m := ⟨by have := h.1; omega, h.2⟩
theorem len_chF2 {f : List I_Column} {c : I_Change} {B : Nat} (h : f.length ≤ B) (hB : 5 ≤ B) (hp : poss f c) : (chF f c).length ≤ B := by
  unfold chF
  split
  · rcases hp with e | e | ⟨e1, e2, e3, e4⟩
    · rw [List.length_insertIdx]; split <;> omega
    · omega
    · omega
  · split
    · rw [List.length_eraseIdx]; split <;> omega
    · rw [List.length_modify]; exact h
theorem len_fA {f : List I_Column} {l : List I_Change} {B : Nat} (h : f.length ≤ B) (hB : 5 ≤ B) (hg : gC f l) : ∀ (i : Nat), i ≤ l.length → (fA f l i).length ≤ B
  | 0, _ => h
  | i + 1, hi => by
    rw [fA_succ f (by omega)]
    exact len_chF2 (len_fA h hB hg i (by omega)) hB (hg i (by omega))
theorem fA_snoc (f : List I_Column) (l : List I_Change) (c : I_Change) : fA f (l ++ [c]) (l ++ [c]).length = chF (fA f l l.length) c := by
  rw [List.length_append, List.length_singleton, fA_succ f (by simp), fA_app f c (Nat.le_refl _), List.getElem_append_right (Nat.le_refl _)]; simp
theorem of_size {l : List ByteArray} (h : l.all (fun x => decide (x.size ≤ 100)) = true) {x : ByteArray} (hx : x ∈ l) : x.size ≤ 5000000 := by
  have := of_decide_eq_true (List.all_eq_true.1 h x hx); omega
theorem zV_b : bV ⟨0, 0, ByteArray.empty⟩ := ⟨by constructor <;> decide, by decide⟩
theorem bR_snoc {r : List I_Value} {v : I_Value} {n : Nat} (h : r.length ≤ n ∧ ∀ x ∈ r, bV x) (hv : bV v) : (r ++ [v]).length ≤ n + 1 ∧ ∀ x ∈ r ++ [v], bV x := ⟨by simp; omega, fun x hx => by
  rcases List.mem_append.1 hx with h1 | h1
  · exact h.2 x h1
  · rw [List.mem_singleton.1 h1]; exact hv⟩
section
variable {N : Nat} (hN : 100000000 ≤ N)
include hN
omit hN in
theorem pickB {r : S_reader} {c n : Int} (h : RdB r c) (hc : c ≤ 1000000000) (hn : n ≤ 4000000000) : ok (m_S_reader_pick N r n) fun x => RdB x.2 (c + 1) ∧ 0 ≤ x.1 ∧ (x.1 < n ∨ x.1 = 0) := by
  have h1 := h.1
  have h2 := h.2.1
  have h3 := h.2.2
  refine (pick_ok N (by omega) (by omega) hn).mono ?_
  rintro ⟨x, r'⟩ ⟨e, e1, e2⟩
  dsimp only at *
  subst e
  exact ⟨⟨h1, by show 0 ≤ r.p + 1; omega, by show r.p + 1 ≤ _; omega⟩, e1, e2⟩
omit hN in
theorem oneB {r : S_reader} {c : Int} {l : List Int} (h : RdB r c) (hc : c ≤ 1000000000) (hl : 0 < l.length) (hl' : l.length ≤ 1000) : ok (m_S_reader_one N r l) fun x => RdB x.2 (c + 1) ∧ x.1 ∈ l := by
  have h1 := h.1
  have h2 := h.2.1
  have h3 := h.2.2
  refine (one_ok N (by omega) (by omega) hl hl').mono ?_
  rintro ⟨x, r'⟩ ⟨e, e1⟩
  dsimp only at *
  subst e
  exact ⟨⟨h1, by show 0 ≤ r.p + 1; omega, by show r.p + 1 ≤ _; omega⟩, e1⟩
omit hN in
theorem ofB {r : S_reader} {c : Int} {l : List ByteArray} (h : RdB r c) (hc : c ≤ 1000000000) (hl : 0 < l.length) (hl' : l.length ≤ 1000) : ok (m_S_reader_of N r l) fun x => RdB x.2 (c + 1) ∧ x.1 ∈ l := by
  have h1 := h.1
  have h2 := h.2.1
  have h3 := h.2.2
  refine (of_ok N (by omega) (by omega) hl hl').mono ?_
  rintro ⟨x, r'⟩ ⟨e, e1⟩
  dsimp only at *
  subst e
  exact ⟨⟨h1, by show 0 ≤ r.p + 1; omega, by show r.p + 1 ≤ _; omega⟩, e1⟩
omit hN in
theorem newB (l : List UInt8) : ok (m_S_newReader N l) fun r => RdB r 0 := (newReader_ok N l).mono fun r h => ⟨h.1, by have := h.2; omega, by have := h.2; omega⟩
omit hN in
theorem valB {r : S_reader} {c k : Int} (h : RdB r c) (hc : c ≤ 900000000) : ok (m_S_randomValue N r k) fun x => RdB x.2 (c + 4) ∧ bV x.1 := by
  have e0 : ByteArray.empty.size = 0 := rfl
  have hnum : ∀ (r : S_reader) (d : Int) (k : Int), RdB r d → d ≤ 950000000 → ok ((m_S_reader_pick N r (250 : Int)).bind fun r8 => (chk (r8.1 * (777 : Int))).bind fun n10 => (m_S_reader_one N r8.2 [(0 : Int), (1 : Int), (7 : Int), (-7 : Int), (79 : Int), (80 : Int), (4000 : Int), (200000 : Int), (999999 : Int), (-999999 : Int), n10]).bind fun r12 => some ((I_Value.mk k r12.1 ByteArray.empty), r12.2)) fun x => RdB x.2 (d + 2) ∧ bV x.1 := by
    intro r d k hr hd
    refine ok.call (pickB hr (by omega) (by omega)) ?_
    rintro ⟨x, r1⟩ ⟨h1, h2, h3⟩
    refine ok.chk (by dsimp only at *; omega) (ok.call (oneB h1 (by omega) (by simp) (by simp)) ?_)
    rintro ⟨y, r2⟩ ⟨h4, h5⟩
    dsimp only at *
    refine ok.some ⟨h4.mono (by omega), ⟨?_, by dsimp only; omega⟩⟩
    dsimp only
    simp only [List.mem_cons, List.not_mem_nil, or_false] at h5
    omega
  have htxt : ∀ (r : S_reader) (d : Int) (k : Int), RdB r d → d ≤ 950000000 → ok ((m_S_reader_of N r ([ByteArray.empty, (ByteArray.mk #[97]), (ByteArray.mk #[97, 98]), (ByteArray.mk #[98]), (ByteArray.mk #[49, 50]), (ByteArray.mk #[45, 55]), (ByteArray.mk #[126, 126]), (ByteArray.mk #[97, 32, 98]), (ByteArray.mk #[97, 98, 99, 100, 101, 102, 103, 104, 105, 106, 107, 108]), (ByteArray.mk #[32])])).bind fun r15 => some ((I_Value.mk k (0 : Int) r15.1), r15.2)) fun x => RdB x.2 (d + 1) ∧ bV x.1 := by
    intro r d k hr hd
    refine ok.call (ofB hr (by omega) (by simp) (by simp)) ?_
    rintro ⟨y, r2⟩ ⟨h4, h5⟩
    exact ok.some ⟨h4, ⟨by dsimp only; omega, of_size (by rfl) h5⟩⟩
  unfold m_S_randomValue
  refine ok.ite (fun _ => ok.call (pickB h (by omega) (by omega)) ?_) fun _ => ok.call (pickB h (by omega) (by omega)) ?_
  · rintro ⟨x, r1⟩ ⟨h1, h2, h3⟩
    refine ok.call (pickB h1 (by omega) (by omega)) ?_
    rintro ⟨y, r2⟩ ⟨h4, h5, h6⟩
    refine ok.ite (fun _ => ok.some ⟨h4.mono (by omega), zV_b⟩) fun _ => ok.ite (fun _ => (hnum _ _ _ h4 (by omega)).mono fun x hx => ⟨hx.1.mono (by omega), hx.2⟩) fun _ => ok.ite (fun _ => (htxt _ _ _ h4 (by omega)).mono fun x hx => ⟨hx.1.mono (by omega), hx.2⟩) fun _ => ok.some ⟨h4.mono (by omega), zV_b⟩
  · rintro ⟨y, r2⟩ ⟨h4, h5, h6⟩
    refine ok.ite (fun _ => ok.some ⟨h4.mono (by omega), zV_b⟩) fun _ => ok.ite (fun _ => (hnum _ _ _ h4 (by omega)).mono fun x hx => ⟨hx.1.mono (by omega), hx.2⟩) fun _ => ok.ite (fun _ => (htxt _ _ _ h4 (by omega)).mono fun x hx => ⟨hx.1.mono (by omega), hx.2⟩) fun _ => ok.some ⟨h4.mono (by omega), zV_b⟩
omit hN in
theorem colB {r : S_reader} {c : Int} (h : RdB r c) (hc : c ≤ 800000000) : ok (m_S_randomColumn N r) fun x => RdB x.2 (c + 5) ∧ bV x.1.default := by
  unfold m_S_randomColumn
  refine ok.call (pickB h (by omega) (by omega)) ?_
  rintro ⟨x, r1⟩ ⟨h1, h2, h3⟩
  refine ok.chk (by dsimp only at *; omega) (ok.call (valB h1 (by omega)) ?_)
  rintro ⟨y, r2⟩ ⟨h4, h5⟩
  exact ok.some ⟨h4.mono (by omega), h5⟩
omit hN in
theorem bFm_snoc {f : List I_Column} {n : Nat} {x : I_Column} (h : bFm f n) (hx : bV x.default) : bFm (f ++ [x]) (n + 1) := ⟨by have := h.1; simp; omega, fun y hy => by
  rcases List.mem_append.1 hy with h1 | h1
  · exact h.2 y h1
  · rw [List.mem_singleton.1 h1]; exact hx⟩
theorem fmtB {r : S_reader} {c : Int} (h : RdB r c) (hc : c ≤ 700000000) : ok (m_S_randomFormat N r) fun x => RdB x.2 (c + 26) ∧ bFm x.1 5 ∧ 1 ≤ x.1.length := by
  unfold m_S_randomFormat
  refine ok.call (oneB h (by omega) (by simp) (by simp)) ?_
  rintro ⟨n, r1⟩ ⟨h1, h2⟩
  have hn : 1 ≤ n ∧ n ≤ 5 := by
    simp only [List.mem_cons, List.not_mem_nil, or_false] at h2
    omega
  obtain ⟨n, rfl⟩ : ∃ m : Nat, n = m := ⟨n.toNat, by omega⟩
  refine ok.call (P := fun e => RdB ⟨e.1, e.2.1⟩ (c + 26) ∧ bFm e.2.2 5 ∧ e.2.2.length = n) (ok.each n (fun i s => s.1 = ((n - i : Nat) : Int) ∧ RdB ⟨s.2.1, s.2.2.1⟩ (c + 1 + 5 * i) ∧ bFm s.2.2.2 i ∧ s.2.2.2.length = i) _ ?_ ?_ N 0 _ (Nat.zero_le _) ⟨rfl, h1.mono (by omega), ⟨Nat.zero_le _, fun c h => by cases h⟩, rfl⟩ (by omega)) ?_
  · rintro i ⟨s1, s2, s3, s4⟩ hi ⟨h3, h4, h5, h6⟩
    dsimp only at *
    unfold m_S_randomFormat_b1
    refine ok.ift (by omega) (ok.call (colB h4 (by omega)) ?_)
    rintro ⟨x, r2⟩ ⟨h7, h8⟩
    dsimp only at *
    refine ok.app (by simp; omega) (ok.chk (by omega) (ok.some ⟨by dsimp only; omega, h7.mono (by omega), bFm_snoc h5 h8, by simp; omega⟩))
  · rintro ⟨s1, s2, s3, s4⟩ ⟨h3, h4, h5, h6⟩
    dsimp only at *
    unfold m_S_randomFormat_b1
    exact ok.iff (by omega) (ok.some ⟨h4.mono (by omega), h5.mono (by omega), h6⟩)
  · rintro ⟨e1, e2, e3⟩ ⟨h3, h4, h5⟩
    exact ok.some ⟨h3, h4, by dsimp only at *; omega⟩
theorem chgB' {r : S_reader} {f : List I_Column} {c : Int} (h : RdB r c) (hc : c ≤ 600000000) (hf : bN f) (hfl : f.length ≤ 7) : ok (m_S_randomChange N r f) fun x => RdB x.2 (c + 42) ∧ bV x.1.column.default := by
  unfold m_S_randomChange
  refine ok.call (P := fun o => match o with | .inl e => RdB ⟨e.1, e.2⟩ (c + 42) | .inr v => RdB v.2 (c + 42) ∧ bV v.1.column.default) (ok.each 6 (fun i s => s.1 = (i : Int) ∧ RdB ⟨s.2.1, s.2.2⟩ (c + 7 * i)) _ ?_ ?_ N 0 _ (Nat.zero_le _) ⟨rfl, h.mono (by omega)⟩ (by omega)) ?_
  · rintro i ⟨s1, s2, s3⟩ hi ⟨h3, h4⟩
    dsimp only at *
    unfold m_S_randomChange_b1
    refine ok.ift (by omega) (ok.call (pickB h4 (by omega) (by omega)) ?_)
    rintro ⟨x, r2⟩ ⟨h5, h6, h7⟩
    dsimp only at *
    refine ok.chk (by omega) (ok.chk (by omega) (ok.call (pickB h5 (by omega) (by omega)) ?_))
    rintro ⟨y, r3⟩ ⟨h8, h9, h10⟩
    dsimp only at *
    refine ok.ite (fun hk => ok.call (colB h8 (by omega)) ?_) fun hk => ok.eq (chFS hN (by omega) hf (by show ByteArray.empty.size ≤ _; decide)) ?_
    · rintro ⟨z, r4⟩ ⟨h11, h12⟩
      dsimp only at *
      refine ok.eq (chFS hN (by omega) hf h12.2) (ok.cond (fun _ => ok.some ⟨h11.mono (by omega), h12⟩) fun _ => ok.chk (by omega) (ok.some ⟨by dsimp only; omega, h11.mono (by omega)⟩))
    · refine ok.cond (fun _ => ok.some ⟨h8.mono (by omega), zV_b⟩) fun _ => ok.chk (by omega) (ok.some ⟨by dsimp only; omega, h8.mono (by omega)⟩)
  · rintro ⟨s1, s2, s3⟩ ⟨h3, h4⟩
    dsimp only at *
    unfold m_S_randomChange_b1
    exact ok.iff (by omega) (ok.some (h4.mono (by omega)))
  · rintro (⟨e1, e2⟩ | v) h3
    · exact ok.some ⟨h3, zV_b⟩
    · exact ok.some h3
omit hN in
theorem bCs_snoc {l : List I_Change} {x : I_Change} {n : Nat} (h : l.length ≤ n ∧ ∀ c ∈ l, bV c.column.default) (hx : bV x.column.default) : (l ++ [x]).length ≤ n + 1 ∧ ∀ c ∈ l ++ [x], bV c.column.default := ⟨by simp; omega, fun y hy => by
  rcases List.mem_append.1 hy with h1 | h1
  · exact h.2 y h1
  · rw [List.mem_singleton.1 h1]; exact hx⟩
theorem rchainB {r : S_reader} {c : Int} (h : RdB r c) (hc : c ≤ 500000000) : ok (m_S_randomChain N r) fun x => RdB x.2.2 (c + 400) ∧ (bFm x.1 5 ∧ 1 ≤ x.1.length) ∧ (x.2.1.length ≤ 8 ∧ ∀ c ∈ x.2.1, bV c.column.default) ∧ gC x.1 x.2.1 := by
  unfold m_S_randomChain
  refine ok.call (fmtB hN h (by omega)) ?_
  rintro ⟨f, r1⟩ ⟨h1, h2, h2'⟩
  refine ok.call (oneB h1 (by omega) (by simp) (by simp)) ?_
  rintro ⟨n, r2⟩ ⟨h3, h4⟩
  have hn : 0 ≤ n ∧ n ≤ 8 := by
    simp only [List.mem_cons, List.not_mem_nil, or_false] at h4
    omega
  obtain ⟨n, rfl⟩ : ∃ m : Nat, n = m := ⟨n.toNat, by omega⟩
  dsimp only at *
  refine ok.call (P := fun e => RdB ⟨e.1, e.2.1⟩ (c + 400) ∧ (e.2.2.length ≤ 8 ∧ ∀ c ∈ e.2.2, bV c.column.default) ∧ gC f e.2.2) (ok.each n (fun i s => s.1 = fA f s.2.2.2.2 s.2.2.2.2.length ∧ s.2.1 = ((n - i : Nat) : Int) ∧ RdB ⟨s.2.2.1, s.2.2.2.1⟩ (c + 27 + 42 * i) ∧ (s.2.2.2.2.length ≤ i ∧ ∀ c ∈ s.2.2.2.2, bV c.column.default) ∧ gC f s.2.2.2.2) _ ?_ ?_ N 0 _ (Nat.zero_le _) ⟨rfl, rfl, h3.mono (by omega), ⟨Nat.zero_le _, fun c h => by cases h⟩, fun i h => absurd h (Nat.not_lt_zero _)⟩ (by omega)) ?_
  · rintro i ⟨s1, s2, s3, s4, s5⟩ hi ⟨h5, h6, h7, h8, h9⟩
    dsimp only at *
    subst h5
    have hl6 := len_fA (B := 5) h2.1 (by omega) h9 s5.length (Nat.le_refl _)
    have hbn := bN_fA h2.bN (by have := h2.1; omega) s5.length (Nat.le_refl _) fun k hk _ => h9 k hk
    unfold m_S_randomChain_b1
    refine ok.ift (by omega) ?_
    refine ok.call (chgB' hN h7 (by omega) hbn.1 (by omega)) ?_
    rintro ⟨x, r3⟩ ⟨h10, h11⟩
    dsimp only at *
    refine ok.eq (chFS hN hbn.2 hbn.1 h11.2) ?_
    by_cases hp : poss (fA f s5 s5.length) x
    · rw [if_pos hp]
      have h12 := bCs_snoc h8 h11
      refine ok.bt rfl (ok.app (by have := h12.1; simp at this ⊢; omega) (ok.chk (by omega) (ok.some ⟨?_, by dsimp only; omega, h10.mono (by omega), h12, gC_app.2 ⟨h9, hp⟩⟩)))
      show chF _ _ = fA f (s5 ++ [x]) (s5 ++ [x]).length
      rw [fA_snoc]
    · rw [if_neg hp]
      exact ok.bf rfl (ok.chk (by omega) (ok.some ⟨rfl, by dsimp only; omega, h10.mono (by omega), ⟨by have := h8.1; dsimp only; omega, h8.2⟩, h9⟩))
  · rintro ⟨s1, s2, s3, s4, s5⟩ ⟨h5, h6, h7, h8, h9⟩
    dsimp only at *
    unfold m_S_randomChain_b1
    exact ok.iff (by omega) (ok.some ⟨h7.mono (by omega), ⟨by have := h8.1; dsimp only; omega, h8.2⟩, h9⟩)
  · rintro ⟨e1, e2, e3⟩ ⟨h5, h6, h7⟩
    exact ok.some ⟨h5, ⟨h2, h2'⟩, h6, h7⟩
omit hN in
theorem anyvalB {r : S_reader} {c : Int} (h : RdB r c) (hc : c ≤ 800000000) : ok (m_S_anyValue N r) fun x => RdB x.2 (c + 6) ∧ bV x.1 := by
  unfold m_S_anyValue
  refine ok.call (valB h (by omega)) ?_
  rintro ⟨v, r1⟩ ⟨h1, h2⟩
  refine ok.call (pickB h1 (by omega) (by omega)) ?_
  rintro ⟨y, r2⟩ ⟨h4, h5, h6⟩
  refine ok.ite (fun _ => ok.call (oneB h4 (by omega) (by simp) (by simp)) ?_) fun _ => ok.ite (fun _ => ok.call (ofB h4 (by omega) (by simp) (by simp)) ?_) fun _ => ok.ite (fun _ => ok.call (oneB h4 (by omega) (by simp) (by simp)) ?_) fun _ => ok.some ⟨h4.mono (by omega), h2⟩
  · rintro ⟨z, r3⟩ ⟨h7, h8⟩
    refine ok.some ⟨h7.mono (by omega), ⟨?_, h2.2⟩⟩
    dsimp only at *
    simp only [List.mem_cons, List.not_mem_nil, or_false] at h8
    omega
  · rintro ⟨z, r3⟩ ⟨h7, h8⟩
    exact ok.some ⟨h7.mono (by omega), ⟨h2.1, of_size (by rfl) h8⟩⟩
  · rintro ⟨z, r3⟩ ⟨h7, h8⟩
    exact ok.some ⟨h7.mono (by omega), h2⟩
omit hN in
theorem bFm_set {f : List I_Column} {n i : Nat} {x : I_Column} (h : bFm f n) (hx : bV x.default) : bFm (f.set i x) n := ⟨by rw [List.length_set]; exact h.1, fun y hy => by
  rcases List.mem_or_eq_of_mem_set hy with h1 | h1
  · exact h.2 y h1
  · rw [h1]; exact hx⟩
theorem anyfmtB {r : S_reader} {c : Int} (h : RdB r c) (hc : c ≤ 500000000) : ok (m_S_anyFormat N r) fun x => RdB x.2 (c + 60) ∧ bFm x.1 6 := by
  unfold m_S_anyFormat
  refine ok.call (fmtB hN h (by omega)) ?_
  rintro ⟨f, r1⟩ ⟨h1, h2, h2'⟩
  refine ok.call (pickB h1 (by omega) (by omega)) ?_
  rintro ⟨y, r2⟩ ⟨h4, h5, h6⟩
  dsimp only at *
  refine ok.ite (fun _ => ok.call (oneB h4 (by omega) (by simp) (by simp)) ?_) fun _ => ok.ite (fun _ => ok.call (anyvalB h4 (by omega)) ?_) fun _ => ok.ite (fun _ => ok.some ⟨h4.mono (by omega), Nat.zero_le _, fun c h => by cases h⟩) fun _ => ok.ite (fun _ => ?_) fun _ => ok.some ⟨h4.mono (by omega), h2.mono (by omega)⟩
  · rintro ⟨z, r3⟩ ⟨h7, h8⟩
    refine ok.eq (ixI_eq (n := 0) rfl (by omega)) (ok.some ⟨h7.mono (by omega), bFm_set (h2.mono (by omega)) (show bV (f[0]'(by omega)).default from h2.2 _ (List.getElem_mem _))⟩)
  · rintro ⟨z, r3⟩ ⟨h7, h8⟩
    refine ok.eq (ixI_eq (n := 0) rfl (by omega)) (ok.some ⟨h7.mono (by omega), bFm_set (h2.mono (by omega)) h8⟩)
  · have hl := h2.1
    refine ok.call (P := fun e => RdB ⟨e.1, e.2.1⟩ (c + 60) ∧ bFm e.2.2 6) (ok.each (6 - f.length) (fun i s => RdB ⟨s.1, s.2.1⟩ (c + 27 + 5 * i) ∧ bFm s.2.2 (f.length + i) ∧ s.2.2.length = f.length + i) _ ?_ ?_ N 0 _ (Nat.zero_le _) ⟨h4.mono (by omega), ⟨Nat.le_refl _, h2.2⟩, rfl⟩ (by omega)) ?_
    · rintro i ⟨s1, s2, s3⟩ hi ⟨h7, h8, h9⟩
      dsimp only at *
      unfold m_S_anyFormat_b1
      refine ok.ift (by omega) (ok.call (colB h7 (by omega)) ?_)
      rintro ⟨x, r3⟩ ⟨h10, h11⟩
      dsimp only at *
      exact ok.app (by simp; omega) (ok.some ⟨h10.mono (by omega), bFm_snoc h8 h11, by simp; omega⟩)
    · rintro ⟨s1, s2, s3⟩ ⟨h7, h8, h9⟩
      dsimp only at *
      unfold m_S_anyFormat_b1
      exact ok.iff (by omega) (ok.some ⟨h7.mono (by omega), h8.mono (by omega)⟩)
    · rintro ⟨e1, e2, e3⟩ ⟨h7, h8⟩
      exact ok.some ⟨h7, h8⟩
theorem anychgB {r : S_reader} {f : List I_Column} {c : Int} (h : RdB r c) (hc : c ≤ 500000000) (hf : bN f) (hfl : f.length ≤ 6) : ok (m_S_anyChange N r f) fun x => RdB x.2 (c + 50) ∧ bV x.1.column.default := by
  unfold m_S_anyChange
  refine ok.eq (copyS (by omega)) (ok.app (by simp; omega) (ok.eq (subM_eq (by simp; omega)) ?_))
  refine ok.call (chgB' hN h (by omega) (f := _) ?_ (by simp; omega)) ?_
  · intro x hx
    have hx' := List.mem_of_mem_drop (List.mem_of_mem_take hx)
    rcases List.mem_append.1 hx' with h1 | h1
    · exact hf x h1
    · rw [List.mem_singleton.1 h1]; exact ⟨by decide, by decide⟩
  rintro ⟨y, r2⟩ ⟨h4, h5⟩
  refine ok.call (pickB h4 (by omega) (by omega)) ?_
  rintro ⟨z, r3⟩ ⟨h6, h7⟩
  dsimp only at *
  refine ok.ite (fun _ => ok.call (oneB h6 (by omega) (by simp) (by simp)) ?_) fun _ => ok.ite (fun _ => ok.chk (by omega) (ok.call (oneB h6 (by omega) (by simp) (by simp)) ?_)) fun _ => ok.some ⟨h6.mono (by omega), h5⟩
  · rintro ⟨z, r3⟩ ⟨h7, h8⟩
    exact ok.some ⟨h7.mono (by omega), h5⟩
  · rintro ⟨z, r3⟩ ⟨h7, h8⟩
    exact ok.some ⟨h7.mono (by omega), h5⟩
theorem anychainB {r : S_reader} {c : Int} (h : RdB r c) (hc : c ≤ 400000000) : ok (m_S_anyChain N r) fun x => RdB x.2.2 (c + 500) ∧ bFm x.1 6 ∧ (x.2.1.length ≤ 9 ∧ ∀ c ∈ x.2.1, bV c.column.default) := by
  unfold m_S_anyChain
  refine ok.call (rchainB hN h (by omega)) ?_
  rintro ⟨f, l, r1⟩ ⟨h1, h2, h3, h3'⟩
  refine ok.call (pickB h1 (by omega) (by omega)) ?_
  rintro ⟨y, r2⟩ ⟨h4, h5, h6⟩
  dsimp only at *
  have hl8 := h3.1
  refine ok.ite (fun _ => ok.call (anyfmtB hN h4 (by omega)) ?_) fun _ => ok.ite (fun _ => ok.call (anychgB hN h4 (by omega) h2.1.bN (by have := h2.1.1; omega)) ?_) fun _ => ok.ite (fun _ => ?_) fun _ => ok.some ⟨h4.mono (by omega), h2.1.mono (by omega), by dsimp only; omega, h3.2⟩
  · rintro ⟨z, r3⟩ ⟨h7, h8⟩
    exact ok.some ⟨h7.mono (by omega), h8, by dsimp only; omega, h3.2⟩
  · rintro ⟨z, r3⟩ ⟨h7, h8⟩
    have h9 := bCs_snoc h3 h8
    exact ok.app (by simp; omega) (ok.some ⟨h7.mono (by omega), h2.1.mono (by omega), h9⟩)
  · refine ok.call (P := fun e => e.length ≤ 9 ∧ ∀ c ∈ e, bV c.column.default) (ok.each (9 - l.length) (fun i s => (s.length ≤ l.length + i ∧ ∀ c ∈ s, bV c.column.default) ∧ s.length = l.length + i) _ ?_ ?_ N 0 _ (Nat.zero_le _) ⟨⟨Nat.le_refl _, h3.2⟩, rfl⟩ (by omega)) ?_
    · rintro i s hi ⟨h7, h8⟩
      unfold m_S_anyChain_b1
      have h9 := bCs_snoc h7 (x := I_Change.mk (3 : Int) (0 : Int) (I_Column.mk (0 : Int) (I_Value.mk (0 : Int) (0 : Int) ByteArray.empty))) zV_b
      exact ok.ift (by omega) (ok.app (by simp; omega) (ok.some ⟨h9, by simp; omega⟩))
    · rintro s ⟨h7, h8⟩
      unfold m_S_anyChain_b1
      exact ok.iff (by omega) (ok.some ⟨by omega, h7.2⟩)
    · rintro e h7
      exact ok.some ⟨h4.mono (by omega), h2.1.mono (by omega), h7⟩
theorem rrowB {r : S_reader} {f : List I_Column} {c : Int} (h : RdB r c) (hc : c ≤ 500000000) (hfl : f.length ≤ 6) : ok (m_S_randomRow N r f) fun x => RdB x.2 (c + 24) ∧ x.1.length ≤ 6 ∧ ∀ v ∈ x.1, bV v := by
  unfold m_S_randomRow
  refine ok.call (P := fun e => RdB ⟨e.1, e.2.1⟩ (c + 24) ∧ e.2.2.length ≤ 6 ∧ ∀ v ∈ e.2.2, bV v) (ok.each f.length (fun i s => s.1 = (i : Int) ∧ RdB ⟨s.2.1, s.2.2.1⟩ (c + 4 * i) ∧ (s.2.2.2.length ≤ i ∧ ∀ v ∈ s.2.2.2, bV v)) _ ?_ ?_ N 0 _ (Nat.zero_le _) ⟨rfl, h.mono (by omega), Nat.zero_le _, fun c h => by cases h⟩ (by omega)) ?_
  · rintro i ⟨s1, s2, s3, s4⟩ hi ⟨h3, h4, h5⟩
    dsimp only at *
    subst h3
    unfold m_S_randomRow_b1
    refine ok.ift (by omega) (ok.eq (ixI_nat hi) (ok.call (valB h4 (by omega)) ?_))
    rintro ⟨x, r2⟩ ⟨h7, h8⟩
    dsimp only at *
    have := h5.1
    refine ok.app (by simp; omega) (ok.chk (by omega) (ok.some ⟨by simp, h7.mono (by omega), bR_snoc h5 h8⟩))
  · rintro ⟨s1, s2, s3, s4⟩ ⟨h3, h4, h5⟩
    dsimp only at *
    subst h3
    unfold m_S_randomRow_b1
    exact ok.iff (by omega) (ok.some ⟨h4.mono (by omega), by have := h5.1; dsimp only; omega, h5.2⟩)
  · rintro ⟨e1, e2, e3⟩ h3
    exact ok.some h3
theorem anyrowB {r : S_reader} {c : Int} (h : RdB r c) (hc : c ≤ 500000000) : ok (m_S_anyRow N r) fun x => RdB x.2 (c + 40) ∧ x.1.length ≤ 6 ∧ ∀ v ∈ x.1, bV v := by
  unfold m_S_anyRow
  refine ok.call (oneB h (by omega) (by simp) (by simp)) ?_
  rintro ⟨n, r2⟩ ⟨h3, h4⟩
  have hn : 0 ≤ n ∧ n ≤ 6 := by
    simp only [List.mem_cons, List.not_mem_nil, or_false] at h4
    omega
  obtain ⟨n, rfl⟩ : ∃ m : Nat, n = m := ⟨n.toNat, by omega⟩
  dsimp only at *
  refine ok.call (P := fun e => RdB ⟨e.1, e.2.1⟩ (c + 25) ∧ e.2.2.length ≤ 6 ∧ ∀ v ∈ e.2.2, bV v) (ok.each n (fun i s => s.1 = ((n - i : Nat) : Int) ∧ RdB ⟨s.2.1, s.2.2.1⟩ (c + 1 + 4 * i) ∧ (s.2.2.2.length ≤ i ∧ ∀ v ∈ s.2.2.2, bV v)) _ ?_ ?_ N 0 _ (Nat.zero_le _) ⟨rfl, h3.mono (by omega), Nat.zero_le _, fun c h => by cases h⟩ (by omega)) ?_
  · rintro i ⟨s1, s2, s3, s4⟩ hi ⟨h3, h4, h5⟩
    dsimp only at *
    unfold m_S_anyRow_b1
    refine ok.ift (by omega) (ok.call (valB h4 (by omega)) ?_)
    rintro ⟨x, r2⟩ ⟨h7, h8⟩
    dsimp only at *
    have := h5.1
    refine ok.app (by simp; omega) (ok.chk (by omega) (ok.some ⟨by dsimp only; omega, h7.mono (by omega), bR_snoc h5 h8⟩))
  · rintro ⟨s1, s2, s3, s4⟩ ⟨h3, h4, h5⟩
    dsimp only at *
    unfold m_S_anyRow_b1
    exact ok.iff (by omega) (ok.some ⟨h4.mono (by omega), by have := h5.1; dsimp only; omega, h5.2⟩)
  · rintro ⟨e1, e2, e3⟩ ⟨h4, h5, h6⟩
    dsimp only at *
    show ok (m_S_anyRow_k1 N _ _ _) _
    unfold m_S_anyRow_k1
    refine ok.ite (fun h0 => ok.call (pickB h4 (by omega) (by omega)) ?_) fun h0 => ok.some ⟨h4.mono (by omega), h5, h6⟩
    rintro ⟨y, r3⟩ ⟨h7, h8, h9⟩
    refine ok.ite (fun _ => ok.call (pickB h7 (by omega) (by omega)) ?_) fun _ => ok.some ⟨h7.mono (by omega), h5, h6⟩
    rintro ⟨z, r4⟩ ⟨h10, h11, h12⟩
    dsimp only at *
    refine ok.call (anyvalB h10 (by omega)) ?_
    rintro ⟨v, r5⟩ ⟨h13, h14⟩
    dsimp only at *
    refine ok.ix (by omega) (by omega) fun m hm he => ok.some ⟨h13.mono (by omega), by rw [List.length_set]; exact h5, fun x hx => ?_⟩
    rcases List.mem_or_eq_of_mem_set hx with h1 | h1
    · exact h6 x h1
    · rw [h1]; exact h14
end
end V
end Go.Proofs.YtkjnnifnmoekjaaDoor
namespace Go.Proofs.YtkjnnifnmoekjaaDoor
namespace V
set_option linter.unusedVariables false
set_option linter.unusedSimpArgs false
set_option maxHeartbeats 1000000
def rOk (l : List I_Tagged) (n : Nat) : Prop := l.length ≤ n ∧ ∀ r ∈ l, r.row.length ≤ 6 ∧ ∀ v ∈ r.row, bV v
theorem rOk.snoc {l : List I_Tagged} {n : Nat} {x : I_Tagged} (h : rOk l n) (hx : x.row.length ≤ 6 ∧ ∀ v ∈ x.row, bV v) : rOk (l ++ [x]) (n + 1) := ⟨by have := h.1; simp; omega, fun y hy => by
  rcases List.mem_append.1 hy with h1 | h1
  · exact h.2 y h1
  · rw [List.mem_singleton.1 h1]; exact hx⟩
/-- A table that is drawn is small. -/
def dT (t : I_Table) : Prop := bFm t.first 6 ∧ (t.changes.length ≤ 9 ∧ ∀ c ∈ t.changes, bV c.column.default) ∧ rOk t.rows 11
theorem dT.bT {t : I_Table} (h : dT t) : bT t := ⟨h.1.bS (by omega), ⟨by have := h.2.1.1; omega, fun c hc => (h.2.1.2 c hc).2⟩, by have := h.2.2.1; omega, fun i hi => by
  have := h.2.2.2 _ (List.getElem_mem hi)
  exact ⟨by omega, fun v hv => (this.2 v hv).2⟩⟩
section
variable {N : Nat} (hN : 100000000 ≤ N)
include hN
theorem tabB {r : S_reader} {c : Int} (h : RdB r c) (hc : c ≤ 1000) : ok (m_S_anyTable2 N r) fun x => RdB x.2 (c + 3000) ∧ dT x.1 := by
  unfold m_S_anyTable2
  refine ok.call (rchainB hN h (by omega)) ?_
  rintro ⟨f, l, r1⟩ ⟨h1, h2, h3, hg⟩
  dsimp only at *
  have hl8 := h3.1
  have hf5 := h2.1.1
  refine ok.eq (formatsS hN (by omega) h2.1.bN ⟨by omega, fun c hc => (h3.2 c hc).2⟩) ?_
  rw [if_pos hg]
  refine ok.call (oneB h1 (by omega) (by simp) (by simp)) ?_
  rintro ⟨n, r2⟩ ⟨h4, h5⟩
  have hn : 0 ≤ n ∧ n ≤ 10 := by
    simp only [List.mem_cons, List.not_mem_nil, or_false] at h5
    omega
  obtain ⟨n, rfl⟩ : ∃ m : Nat, n = m := ⟨n.toNat, by omega⟩
  have hlen := chs_len f l
  have hrow : ∀ (r : S_reader) (g : List I_Column) (d : Int), RdB r d → d ≤ 100000 → g.length ≤ 6 → ok (m_S_randomRow N r g) fun x => RdB x.2 (d + 24) ∧ x.1.length ≤ 6 ∧ ∀ v ∈ x.1, bV v := fun r g d hr hd hg => rrowB hN hr (by omega) hg
  refine ok.call (P := fun e => RdB ⟨e.1, e.2.1⟩ (c + 401 + 250) ∧ rOk e.2.2 10) (ok.each n (fun i s => s.1 = ((n - i : Nat) : Int) ∧ RdB ⟨s.2.1, s.2.2.1⟩ (c + 401 + 25 * i) ∧ rOk s.2.2.2 i) _ ?_ ?_ N 0 _ (Nat.zero_le _) ⟨rfl, h4.mono (by omega), Nat.zero_le _, fun c h => by cases h⟩ (by omega)) ?_
  · rintro i ⟨s1, s2, s3, s4⟩ hi ⟨h6, h7, h8⟩
    dsimp only at *
    unfold m_S_anyTable2_b1
    refine ok.ift (by omega) (ok.call (pickB h7 (by omega) (by dsimp only; omega)) ?_)
    rintro ⟨x, r3⟩ ⟨h9, h10, h11⟩
    dsimp only at *
    refine ok.eq (chs_ix (n := x.toNat) (by omega) (by omega)) (ok.call (hrow _ _ _ h9 (by omega) (len_fA (by omega) (by omega) hg _ (by omega))) ?_)
    rintro ⟨y, r4⟩ ⟨h12, h13⟩
    dsimp only at *
    have := h8.1
    exact ok.app (by simp; omega) (ok.chk (by omega) (ok.some ⟨by dsimp only; omega, h12.mono (by omega), h8.snoc h13⟩))
  · rintro ⟨s1, s2, s3, s4⟩ ⟨h6, h7, h8⟩
    dsimp only at *
    unfold m_S_anyTable2_b1
    exact ok.iff (by omega) (ok.some ⟨h7.mono (by omega), by have := h8.1; dsimp only; omega, h8.2⟩)
  · rintro ⟨e1, e2, e3⟩ ⟨h6, h7⟩
    dsimp only at *
    show ok (m_S_anyTable2_k1 N _ _ _ _ _) _
    unfold m_S_anyTable2_k1
    have h71 := h7.1
    refine ok.call (pickB h6 (by omega) (by omega)) ?_
    rintro ⟨y, r3⟩ ⟨h8, h9, h10⟩
    dsimp only at *
    refine ok.ite (fun _ => ok.call (anychainB hN h8 (by omega)) ?_) fun _ => ok.ite (fun _ => ok.call (oneB h8 (by omega) (by simp) (by simp)) ?_) fun _ => ok.ite (fun _ => ?_) fun _ => ok.some ⟨h8.mono (by omega), h2.1.mono (by omega), ⟨by dsimp only; omega, h3.2⟩, by dsimp only; omega, h7.2⟩
    · rintro ⟨f', l', r4⟩ ⟨h11, h12, h13⟩
      exact ok.some ⟨h11.mono (by omega), h12, h13, by dsimp only; omega, h7.2⟩
    · rintro ⟨z, r4⟩ ⟨h11, h12⟩
      refine ok.call (anyrowB hN h11 (by omega)) ?_
      rintro ⟨w, r5⟩ ⟨h13, h14⟩
      dsimp only at *
      exact ok.app (by simp; omega) (ok.some ⟨h13.mono (by omega), h2.1.mono (by omega), ⟨by dsimp only; omega, h3.2⟩, h7.snoc h14⟩)
    · refine ok.call (P := fun e => RdB ⟨e.1, e.2.1⟩ (c + 652 + 275) ∧ rOk e.2.2 11) (ok.each (11 - e3.length) (fun i s => RdB ⟨s.1, s.2.1⟩ (c + 652 + 25 * i) ∧ rOk s.2.2 (e3.length + i) ∧ s.2.2.length = e3.length + i) _ ?_ ?_ N 0 _ (Nat.zero_le _) ⟨h8.mono (by omega), ⟨Nat.le_refl _, h7.2⟩, rfl⟩ (by omega)) ?_
      · rintro i ⟨s1, s2, s3⟩ hi ⟨h11, h12, h13⟩
        dsimp only at *
        unfold m_S_anyTable2_b2
        refine ok.ift (by omega) (ok.call (hrow _ _ _ h11 (by omega) (by dsimp only; omega)) ?_)
        rintro ⟨x, r4⟩ ⟨h14, h15⟩
        dsimp only at *
        exact ok.app (by simp; omega) (ok.some ⟨h14.mono (by omega), h12.snoc h15, by simp; omega⟩)
      · rintro ⟨s1, s2, s3⟩ ⟨h11, h12, h13⟩
        dsimp only at *
        unfold m_S_anyTable2_b2
        exact ok.iff (by omega) (ok.some ⟨h11.mono (by omega), by have := h12.1; dsimp only; omega, h12.2⟩)
      · rintro ⟨e1, e2, e3⟩ ⟨h11, h12⟩
        exact ok.some ⟨RdB.mono h11 (by omega), h2.1.mono (by omega), ⟨by dsimp only; omega, h3.2⟩, h12⟩
theorem drawT (l : List UInt8) : ok (m_S_newReader N l) fun r => ok (m_S_anyTable2 N r) fun x => RdB x.2 3000 ∧ dT x.1 := (newB l).mono fun r h => (tabB hN h (by omega)).mono fun x hx => ⟨hx.1.mono (by omega), hx.2⟩
end
end V
end Go.Proofs.YtkjnnifnmoekjaaDoor
namespace Go.Proofs.YtkjnnifnmoekjaaDoor
namespace V
set_option linter.unusedVariables false
set_option linter.unusedSimpArgs false
set_option maxHeartbeats 1000000
def l01 (b : Bool) : Int := bif b then 1 else 0
def ltB (a b : ByteArray) : Bool := Op.bytesLess a.toList b.toList
theorem ltB_asym {a b : ByteArray} (h : ltB a b = true) : ltB b a = false := by
  have := bl_total a.toList b.toList
  unfold ltB at *
  rw [h, Bool.true_or] at this
  simpa using this.symm
theorem ltB_self (a : ByteArray) : ltB a a = false := by
  cases h : ltB a a
  · rfl
  · have := ltB_asym h; rw [h] at this; cases this
/-- Two values compared. -/
def sc (a b : I_Value) : Int := bif decide (a.kind = b.kind) then (bif decide (a.num = b.num) then l01 (ltB b.text a.text) - l01 (ltB a.text b.text) else l01 (decide (b.num < a.num)) - l01 (decide (a.num < b.num))) else l01 (decide (b.kind < a.kind)) - l01 (decide (a.kind < b.kind))
theorem sc_anti (a b : I_Value) : sc a b = - sc b a := by
  unfold sc
  by_cases h : a.kind = b.kind
  · by_cases h2 : a.num = b.num
    · simp only [h, h2, decide_true, cond_true]; omega
    · have h2' : ¬ b.num = a.num := fun e => h2 e.symm
      simp only [h, h2, h2', decide_true, cond_true, decide_false, cond_false]; omega
  · have h' : ¬ b.kind = a.kind := fun e => h e.symm
    simp only [h, h', decide_false, cond_false]; omega
theorem l01_bd (b : Bool) : 0 ≤ l01 b ∧ l01 b ≤ 1 := by cases b <;> decide
theorem l01_cmp {a b : Bool} (h : a = true → b = false) : (bif a then (-1 : Int) else bif b then 1 else 0) = l01 b - l01 a := by
  cases a
  · cases b <;> rfl
  · rw [h rfl]; rfl
/-- The value of a row in a column of the last format. -/
def cv (t : I_Table) (c : Nat) (r : I_Tagged) : I_Value := ((adv t r)[c]?).getD ⟨0, 0, ByteArray.empty⟩
theorem cv_get {t : I_Table} (h : tV t) {i c : Nat} (hi : i < t.rows.length) (hc : c < (fL t).length) : ∃ h : c < (adv t t.rows[i]).length, cv t c t.rows[i] = (adv t t.rows[i])[c] ∧ vV (cv t c t.rows[i]) := by
  have hf := adv_fit h (h.2.2 i hi)
  have hl : c < (adv t t.rows[i]).length := by rw [hf.1]; exact hc
  have e : cv t c t.rows[i] = (adv t t.rows[i])[c] := by unfold cv; rw [List.getElem?_eq_getElem hl]; rfl
  exact ⟨hl, e, e ▸ (hf.2 c hl hc).1⟩
/-- There is such a column. -/
def hasC (t : I_Table) (c : Int) : Prop := tV t ∧ 0 ≤ c ∧ c < (fL t).length
noncomputable instance (t : I_Table) (c : Int) : Decidable (hasC t c) := Classical.propDecidable _
def btw (t : I_Table) (c : Nat) (lo hi : I_Value) (i : Nat) : Bool := match t.rows[i]? with
  | some r => decide (sc lo (cv t c r) ≤ 0) && decide (sc (cv t c r) hi ≤ 0)
  | none => false
def okSc (t : I_Table) (c : Int) (lo hi : I_Value) : Prop := hasC t c ∧ vV lo ∧ vV hi
noncomputable instance (t : I_Table) (c : Int) (lo hi : I_Value) : Decidable (okSc t c lo hi) := Classical.propDecidable _
def found (t : I_Table) (c : Nat) (lo hi : I_Value) (n : Nat) : List Int := ((List.range n).filter (btw t c lo hi)).map Int.ofNat
theorem found_len (t : I_Table) (c : Nat) (lo hi : I_Value) (n : Nat) : (found t c lo hi n).length ≤ n := by
  unfold found; rw [List.length_map]
  have := List.length_filter_le (btw t c lo hi) (List.range n)
  rw [List.length_range] at this; exact this
theorem found_succ (t : I_Table) (c : Nat) (lo hi : I_Value) (n : Nat) : found t c lo hi (n + 1) = found t c lo hi n ++ (if btw t c lo hi n = true then [(n : Int)] else []) := by
  unfold found
  rw [List.range_succ, List.filter_append, List.map_append]
  by_cases h : btw t c lo hi n = true <;> simp [h]
theorem found_mem {t : I_Table} {c : Nat} {lo hi : I_Value} {n i : Nat} (h : i < n) : (i : Int) ∈ found t c lo hi n ↔ btw t c lo hi i = true := by
  unfold found
  rw [List.mem_map]
  constructor
  · rintro ⟨j, hj, e⟩
    have : j = i := by have : (j : Int) = i := e; omega
    subst this
    exact (List.mem_filter.1 hj).2
  · intro hb
    exact ⟨i, List.mem_filter.2 ⟨List.mem_range.2 h, hb⟩, rfl⟩
theorem btw_at {t : I_Table} {c : Nat} {lo hi : I_Value} {i : Nat} (h : i < t.rows.length) : btw t c lo hi i = (decide (sc lo (cv t c t.rows[i]) ≤ 0) && decide (sc (cv t c t.rows[i]) hi ≤ 0)) := by
  unfold btw; rw [List.getElem?_eq_getElem h]
noncomputable def scanP (t : I_Table) (c : Int) (lo hi : I_Value) : List Int := if okSc t c lo hi then found t c.toNat lo hi t.rows.length else []
section
variable {N : Nat} (hN : 100000000 ≤ N)
include hN
omit hN in
theorem cmpII (a b : Int) : m_cmp_Compare_int_ N a b = some (l01 (decide (b < a)) - l01 (decide (a < b))) := by
  have e : m_cmp_Compare_int_ N a b = some (bif decide (a < b) then (-1 : Int) else bif decide (b < a) then 1 else 0) := by
    unfold m_cmp_Compare_int_ m_cmp_isNaN_int_
    simp only [decide_true, Bool.not_true, Option.bind_some, cond_false]
    cases decide (a < b) <;> cases decide (b < a) <;> rfl
  rw [e, l01_cmp fun h => decide_eq_false (by have := of_decide_eq_true h; omega)]
omit hN in
theorem cmpSS (a b : ByteArray) : m_cmp_Compare_string_ N a b = some (l01 (ltB b a) - l01 (ltB a b)) := by
  have e : m_cmp_Compare_string_ N a b = some (bif ltB a b then (-1 : Int) else bif ltB b a then 1 else 0) := by
    unfold m_cmp_Compare_string_ m_cmp_isNaN_string_ ltB
    simp only [beq_self_eq_true, Bool.not_true, Option.bind_some, cond_false]
    cases Op.bytesLess a.toList b.toList <;> cases Op.bytesLess b.toList a.toList <;> rfl
  rw [e, l01_cmp fun h => ltB_asym h]
omit hN in
theorem compI {v w : I_Value} (hv : vV v) (hw : vV w) : m_I_Value_compare N v w = some (sc v w) := by
  unfold m_I_Value_compare sc
  by_cases k : v.kind = w.kind
  · rw [decide_eq_true k, cond_true, cond_true]
    by_cases k1 : v.kind = 1
    · have t1 : v.text = ByteArray.empty := by rcases hv with h | h | h; omega; exact h.2.2.2; omega
      have t2 : w.text = ByteArray.empty := by rcases hw with h | h | h; omega; exact h.2.2.2; omega
      rw [decide_eq_true k1, cond_true, cmpII]
      by_cases n : v.num = w.num
      · rw [decide_eq_true n, cond_true, t1, t2, ltB_self, n]
        have : ¬ w.num < w.num := by omega
        rw [decide_eq_false this]; rfl
      · rw [decide_eq_false n, cond_false]; rfl
    · have n1 : v.num = w.num := by rcases hv with h | h | h <;> rcases hw with g | g | g <;> omega
      rw [decide_eq_false k1, cond_false, decide_eq_true n1, cond_true, cmpSS]; rfl
  · rw [decide_eq_false k, cond_false, cond_false, cmpII]; rfl
omit hN in
theorem toI (b : Bool) : m_S_toInt N b = some (l01 b) := by cases b <;> rfl
omit hN in
theorem compS (v w : I_Value) : m_S_compare N v w = some (sc v w) := by
  refine ok.val ?_
  unfold m_S_compare sc
  have hb := fun b => l01_bd b
  refine ok.ite (fun k => ?_) fun k => ?_
  · rw [decide_eq_true k, cond_true]
    refine ok.ite (fun n => ?_) fun n => ?_
    · rw [decide_eq_true n, cond_true]
      refine ok.eq (toI _) (ok.eq (toI _) (ok.chk ?_ (ok.some rfl)))
      have h1 := hb (Op.bytesLess w.text.toList v.text.toList)
      have h2 := hb (Op.bytesLess v.text.toList w.text.toList)
      omega
    · rw [decide_eq_false n, cond_false]
      refine ok.eq (toI _) (ok.eq (toI _) (ok.chk ?_ (ok.some rfl)))
      have h1 := hb (decide (w.num < v.num))
      have h2 := hb (decide (v.num < w.num))
      omega
  · rw [decide_eq_false k, cond_false]
    refine ok.eq (toI _) (ok.eq (toI _) (ok.chk ?_ (ok.some rfl)))
    have h1 := hb (decide (w.kind < v.kind))
    have h2 := hb (decide (v.kind < w.kind))
    omega
theorem compV {v w : I_Value} (hv : vV v) (hw : vV w) : m_I_CompareValues N v w = some (sc v w) := by
  refine ok.val ?_
  unfold m_I_CompareValues
  exact ok.eq (vVI hN (by have := vV_size hv; omega)) (ok.ift hv (ok.eq (vVI hN (by have := vV_size hw; omega)) (ok.ift hw (ok.eq (compI hv hw) (ok.some rfl)))))
theorem colI {t : I_Table} (hb : bT t) (c : Int) : m_I_columnOf N t c = some (if hasC t c then (t.rows.map (cv t c.toNat), true) else ([], false)) := by
  have hrl := hb.rl
  refine ok.val ?_
  unfold m_I_columnOf
  refine ok.eq (lastI hN hb) ?_
  by_cases hv : tV t
  · rw [if_pos hv]
    refine ok.bt rfl (ok.ite (fun h => ok.some ?_) fun h => ok.ite (fun h2 => ok.some ?_) fun h2 => ok.eq (rowsI hN hb) ?_)
    · rw [if_neg fun e : hasC t c => by have := e.2.1; omega]
    · dsimp only at h2
      rw [if_neg fun e : hasC t c => by have := e.2.2; omega]
    · dsimp only at h2
      have hh : hasC t c := ⟨hv, by omega, by omega⟩
      rw [if_pos hh]
      have e0 : tR t = t.rows.map (adv t) := by unfold tR; rw [if_pos hv]
      rw [e0]
      refine ok.call (P := fun o => o = t.rows.map (cv t c.toNat)) (ok.each t.rows.length (fun i s => s = ((i : Int), (t.rows.take i).map (cv t c.toNat))) _ ?_ ?_ N 0 _ (Nat.zero_le _) rfl (by omega)) ?_
      · rintro i s hi rfl
        show ok (m_I_columnOf_b1 N c _ (i : Int) _) _
        unfold m_I_columnOf_b1
        obtain ⟨h3, h4, _⟩ := cv_get hv (c := c.toNat) hi (by omega)
        have e1 : ixI (t.rows.map (adv t)) (i : Int) = some (adv t t.rows[i]) := by rw [ixI_nat (by simpa using hi)]; simp
        refine ok.ift (by simpa using hi) (ok.eq e1 (ok.eq (ixI_eq (n := c.toNat) (by omega) h3) (ok.app (by simp; omega) (ok.chk (by omega) (ok.some ?_)))))
        rw [map_take _ hi, h4]; simp
      · rintro s rfl
        show ok (m_I_columnOf_b1 N c _ _ _) _
        unfold m_I_columnOf_b1
        refine ok.iff (by simp) (ok.some ?_)
        rw [List.take_length]
      · rintro o rfl
        exact ok.some rfl
  · rw [if_neg hv, if_neg fun e : hasC t c => hv e.1]
    exact ok.bf rfl (ok.some rfl)
theorem scanI {t : I_Table} (hb : bT t) (c : Int) {lo hi : I_Value} (hlo : lo.text.size ≤ 5000000) (hhi : hi.text.size ≤ 5000000) : m_I_ScanTable N t c lo hi = some (scanP t c lo hi) := by
  have hrl := hb.rl
  refine ok.val ?_
  unfold m_I_ScanTable scanP
  refine ok.eq (colI hN hb c) ?_
  by_cases hc : hasC t c
  · rw [if_pos hc]
    refine ok.bt rfl (ok.eq (vVI hN hlo) (ok.ite (fun h1 => ok.eq (vVI hN hhi) (ok.ite (fun h2 => ?_) fun h2 => ok.some ?_)) fun h1 => ok.some ?_))
    · rw [if_pos (show okSc t c lo hi from ⟨hc, h1, h2⟩)]
      refine ok.call (P := fun o => o = found t c.toNat lo hi t.rows.length) (ok.each t.rows.length (fun i s => s = ((i : Int), found t c.toNat lo hi i)) _ ?_ ?_ N 0 _ (Nat.zero_le _) rfl (by omega)) ?_
      · rintro i s hi' rfl
        show ok (m_I_ScanTable_b1 N lo hi _ (i : Int) _) _
        unfold m_I_ScanTable_b1
        have hl := found_len t c.toNat lo hi i
        obtain ⟨_, _, h5⟩ := cv_get hc.1 (c := c.toNat) hi' (by have := hc.2.2; have := hc.2.1; omega)
        have e1 : ixI (t.rows.map (cv t c.toNat)) (i : Int) = some (cv t c.toNat t.rows[i]) := by rw [ixI_nat (by simpa using hi')]; simp
        have ha := sc_anti (cv t c.toNat t.rows[i]) lo
        have hbt := btw_at (t := t) (c := c.toNat) (lo := lo) (hi := hi) hi'
        rw [found_succ]
        refine ok.ift (by simpa using hi') (ok.eq e1 (ok.eq (compI h5 h1) (ok.ite (fun h6 => ok.eq (compI h5 h2) (ok.ite (fun h7 => ok.app (by dsimp only; simp only [List.length_singleton]; omega) (ok.chk (by omega) (ok.some ?_))) fun h7 => ok.chk (by omega) (ok.some ?_))) fun h6 => ok.chk (by omega) (ok.some ?_))))
        · rw [if_pos (by rw [hbt, decide_eq_true (by omega), decide_eq_true h7]; rfl)]; simp
        · rw [if_neg (by rw [hbt, decide_eq_false h7]; simp)]; simp
        · rw [if_neg (by rw [hbt, decide_eq_false (by omega)]; simp)]; simp
      · rintro s rfl
        show ok (m_I_ScanTable_b1 N lo hi _ _ _) _
        unfold m_I_ScanTable_b1
        exact ok.iff (by simp) (ok.some rfl)
      · rintro o rfl
        exact ok.some rfl
    · rw [if_neg fun e : okSc t c lo hi => h2 e.2.2]
    · rw [if_neg fun e : okSc t c lo hi => h1 e.2.1]
  · rw [if_neg hc, if_neg fun e : okSc t c lo hi => hc e.1]
    exact ok.bf rfl (ok.some rfl)
theorem scanS {t : I_Table} (hb : bT t) (c : Int) {lo hi : I_Value} (hlo : lo.text.size ≤ 5000000) (hhi : hi.text.size ≤ 5000000) : m_S_ScanTable N t c lo hi = some (scanP t c lo hi) := by
  have hrl := hb.rl
  refine ok.val ?_
  unfold m_S_ScanTable scanP
  refine ok.eq (validTS hN hb) (ok.ite (fun hv => ?_) fun hv => ok.some (by rw [if_neg fun e : okSc t c lo hi => hv e.1.1]))
  have hw : m_S_width N t = some ((fL t).length : Int) := by
    refine ok.val ?_
    unfold m_S_width
    refine ok.eq (formatsS hN hb.f.1 (vF_bN hv.1.1) hb.c) ?_
    rw [if_pos hv.1.2.2]
    exact ok.eq (chs_ix rfl (Nat.le_refl _)) (ok.some rfl)
  have hfl := (fL_v hv).1
  refine ok.eq hw (ok.chk (by omega) (ok.eq (inRange_eq N _ _ _) (ok.ite (fun hr => ok.eq (vVS hN hlo) (ok.ite (fun h1 => ok.eq (vVS hN hhi) (ok.ite (fun h2 => ok.eq (latestS hN hv) ?_) fun h2 => ok.some ?_)) fun h1 => ok.some ?_)) fun hr => ok.some ?_)))
  · have hc : hasC t c := ⟨hv, hr.1, by omega⟩
    rw [if_pos (show okSc t c lo hi from ⟨hc, h1, h2⟩)]
    refine ok.call (P := fun o => o = found t c.toNat lo hi t.rows.length) (ok.each t.rows.length (fun i s => s = ((i : Int), found t c.toNat lo hi i)) _ ?_ ?_ N 0 _ (Nat.zero_le _) rfl (by omega)) ?_
    · rintro i s hi' rfl
      show ok (m_S_ScanTable_b1 N c lo hi _ (i : Int) _) _
      unfold m_S_ScanTable_b1
      have hl := found_len t c.toNat lo hi i
      obtain ⟨h3, h4, h5⟩ := cv_get hc.1 (c := c.toNat) hi' (by omega)
      have e1 : ixI (t.rows.map (adv t)) (i : Int) = some (adv t t.rows[i]) := by rw [ixI_nat (by simpa using hi')]; simp
      have e2 : ixI (adv t t.rows[i]) c = some (cv t c.toNat t.rows[i]) := by rw [ixI_eq (n := c.toNat) (by omega) h3, h4]
      have hbt := btw_at (t := t) (c := c.toNat) (lo := lo) (hi := hi) hi'
      rw [found_succ]
      refine ok.ift (by simpa using hi') (ok.eq e1 (ok.eq e2 (ok.eq (compS _ _) (ok.ite (fun h6 => ok.eq e2 (ok.eq (compS _ _) (ok.ite (fun h7 => ok.app (by dsimp only; simp only [List.length_singleton]; omega) (ok.chk (by omega) (ok.some ?_))) fun h7 => ok.chk (by omega) (ok.some ?_)))) fun h6 => ok.chk (by omega) (ok.some ?_)))))
      · rw [if_pos (by rw [hbt, decide_eq_true h6, decide_eq_true h7]; rfl)]; simp
      · rw [if_neg (by rw [hbt, decide_eq_false h7]; simp)]; simp
      · rw [if_neg (by rw [hbt, decide_eq_false h6]; simp)]; simp
    · rintro s rfl
      show ok (m_S_ScanTable_b1 N c lo hi _ _ _) _
      unfold m_S_ScanTable_b1
      exact ok.iff (by simp) (ok.some rfl)
    · rintro o rfl
      exact ok.some rfl
  · rw [if_neg fun e : okSc t c lo hi => h2 e.2.2]
  · rw [if_neg fun e : okSc t c lo hi => h1 e.2.1]
  · rw [if_neg fun e : okSc t c lo hi => hr ⟨e.1.2.1, by have := e.1.2.2; omega⟩]
theorem drawSc (l : List UInt8) : ok (m_S_DrawScanTable N l) fun x => bT x.1 ∧ x.2.2.1.text.size ≤ 5000000 ∧ x.2.2.2.text.size ≤ 5000000 := by
  have e0 : ByteArray.empty.size = 0 := rfl
  have e3 : (ByteArray.mk #[126, 126, 126]).size = 3 := rfl
  unfold m_S_DrawScanTable
  refine ok.call (drawT hN l) fun r h => ok.call h fun x hx => ok.call (oneB hx.1 (by omega) (by simp) (by simp)) ?_
  rintro ⟨c, r2⟩ ⟨h3, h4⟩
  refine ok.call (anyvalB h3 (by omega)) ?_
  rintro ⟨v, r3⟩ ⟨h5, h6⟩
  refine ok.call (pickB h5 (by omega) (by omega)) ?_
  rintro ⟨y, r4⟩ ⟨h7, h8⟩
  refine ok.ite (fun _ => ok.call (pickB h7 (by omega) (by omega)) ?_) fun _ => ok.call (pickB h7 (by omega) (by omega)) ?_
  · rintro ⟨y, r5⟩ ⟨h9, h10⟩
    refine ok.ite (fun _ => ok.some ⟨hx.2.bT, by dsimp only; omega, by dsimp only; omega⟩) fun _ => ok.call (anyvalB h9 (by omega)) ?_
    rintro ⟨w, r6⟩ ⟨h11, h12⟩
    exact ok.some ⟨hx.2.bT, by dsimp only; omega, h12.2⟩
  · rintro ⟨y, r5⟩ ⟨h9, h10⟩
    refine ok.ite (fun _ => ok.some ⟨hx.2.bT, h6.2, by dsimp only; omega⟩) fun _ => ok.call (anyvalB h9 (by omega)) ?_
    rintro ⟨w, r6⟩ ⟨h11, h12⟩
    exact ok.some ⟨hx.2.bT, h6.2, h12.2⟩
theorem eqInts {r : List Int} (hl : r.length ≤ 5000000) : m_L_equalInts N r r = some true := by
  refine ok.val ?_
  unfold m_L_equalInts
  refine ok.ift rfl (ok.eq (loop_self (n := r.length) (by omega) (fun i hi => ?_) ?_) (ok.some rfl))
  · show m_L_equalInts_b1 N r r (i : Int) = _
    unfold m_L_equalInts_b1
    exact ok.val (ok.ift (by omega) (ok.eq (ixI_nat hi) (ok.eq (ixI_nat hi) (ok.ift rfl (ok.chk (by omega) (ok.some rfl))))))
  · show m_L_equalInts_b1 N r r _ = _
    unfold m_L_equalInts_b1
    rw [decide_eq_false (by omega)]; rfl
omit hN in
theorem scan_len (t : I_Table) (c : Int) (lo hi : I_Value) : (scanP t c lo hi).length ≤ 10 := by
  unfold scanP
  split
  · rename_i h
    have := found_len t c.toNat lo hi t.rows.length
    have := h.1.1.2.1
    omega
  · exact Nat.zero_le _
theorem inIs {xs : List Int} {n : Int} (hl : xs.length ≤ 5000000) : m_L_isIn N xs n = some (decide (n ∈ xs)) := by
  unfold m_L_isIn
  refine ok.val ?_
  refine ok.call (P := fun o => match o with | .inl _ => n ∉ xs | .inr v => v = true ∧ n ∈ xs) (ok.each xs.length (fun i s => s = (i : Int) ∧ n ∉ xs.take i) _ ?_ ?_ N 0 0 (Nat.zero_le _) ⟨rfl, by simp⟩ (by omega)) ?_
  · rintro i s hi ⟨rfl, hg⟩
    show ok (m_L_isIn_b1 N xs n (i : Int)) _
    unfold m_L_isIn_b1
    refine ok.ift (by omega) (ok.eq (ixI_nat hi) (ok.ite (fun e => ok.some ⟨rfl, e ▸ List.getElem_mem hi⟩) fun e => ok.chk (by omega) (ok.some ⟨by simp, fun hh => ?_⟩)))
    rcases (mem_take_succ hi).1 hh with h1 | h1
    · exact hg h1
    · exact e h1.symm
  · rintro s ⟨rfl, hg⟩
    show ok (m_L_isIn_b1 N xs n _) _
    unfold m_L_isIn_b1
    rw [List.take_length] at hg
    exact ok.iff (by omega) (ok.some hg)
  · rintro (u | r) h
    · exact ok.some (decide_eq_false h).symm
    · obtain ⟨rfl, h⟩ := h
      exact ok.some (decide_eq_true h).symm
theorem lawFnScanTable (l : List UInt8) (sl : Szd.szd l) : m_L_FnScanTable N l = some true := by
  refine ok.val ?_
  unfold m_L_FnScanTable
  refine ok.ite (fun _ => ok.some rfl) fun hl => ok.call (drawSc hN l) ?_
  rintro ⟨t, c, lo, hi⟩ ⟨hb, h1, h2⟩
  dsimp only at *
  have hsl := scan_len t c lo hi
  have e := eqInts hN (r := scanP t c lo hi) (by omega)
  refine ok.eq (scanI hN hb c h1 h2) (ok.eq (scanS hN hb c h1 h2) (ok.eq e (ok.bt rfl (ok.ite (fun h0 => ok.eq (scanS hN hb c h1 h2) (ok.eq e (ok.some rfl))) fun h0 => ok.eq (rowsI hN hb) ?_))))
  have hk : okSc t c lo hi := Classical.byContradiction fun hn => h0 (by unfold scanP; rw [if_neg hn]; rfl)
  have hv := hk.1.1
  have hc0 := hk.1.2.1
  have hc1 := hk.1.2.2
  have h10 := hv.2.1
  have e0 : tR t = t.rows.map (adv t) := by unfold tR; rw [if_pos hv]
  have es : scanP t c lo hi = found t c.toNat lo hi t.rows.length := by unfold scanP; rw [if_pos hk]
  rw [e0]
  refine ok.eq (loop_self (n := t.rows.length) (by omega) (fun i hi' => ?_) ?_) (ok.some rfl)
  · show m_L_FnScanTable_b1 N (t, c, lo, hi) (scanP t c lo hi) _ (i : Int) = _
    unfold m_L_FnScanTable_b1
    obtain ⟨h3, h4, h5⟩ := cv_get hv (c := c.toNat) hi' (by omega)
    have e1 : ixI (t.rows.map (adv t)) (i : Int) = some (adv t t.rows[i]) := by rw [ixI_nat (by simpa using hi')]; simp
    have e2 : ixI (adv t t.rows[i]) c = some (cv t c.toNat t.rows[i]) := by rw [ixI_eq (n := c.toNat) (by omega) h3, h4]
    have hbt := btw_at (t := t) (c := c.toNat) (lo := lo) (hi := hi) hi'
    have e3 : m_L_isIn N (scanP t c lo hi) (i : Int) = some (btw t c.toNat lo hi i) := by
      rw [inIs hN (by omega)]
      congr 1
      have hm := found_mem (t := t) (c := c.toNat) (lo := lo) (hi := hi) hi'
      rw [es]
      cases hq : btw t c.toNat lo hi i
      · exact decide_eq_false fun h => by have := hm.1 h; rw [hq] at this; cases this
      · exact decide_eq_true (hm.2 hq)
    refine ok.val (ok.ift (by simpa using hi') (ok.eq e1 (ok.eq e2 (ok.eq (compV hN hk.2.1 h5) (ok.ite (fun h6 => ok.eq (compV hN h5 hk.2.2) (ok.eq e3 (ok.bt ?_ (ok.chk (by omega) (ok.some rfl))))) fun h6 => ok.eq e3 (ok.bt ?_ (ok.chk (by omega) (ok.some rfl))))))))
    · rw [hbt, decide_eq_true h6, Bool.true_and]; exact beq_self_eq_true _
    · rw [hbt, decide_eq_false h6]; rfl
  · show m_L_FnScanTable_b1 N (t, c, lo, hi) (scanP t c lo hi) _ _ = _
    unfold m_L_FnScanTable_b1
    rw [decide_eq_false (by simp)]; rfl
end
end V
end Go.Proofs.YtkjnnifnmoekjaaDoor
