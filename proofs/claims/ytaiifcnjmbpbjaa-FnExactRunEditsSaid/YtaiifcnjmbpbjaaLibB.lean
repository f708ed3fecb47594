/- What a walk knows of memory ('Now'), how it turns with each operation, and what each operation yields. No condition. -/
import Derived.Test.YtaiifcnjmbpbjaaLibA
namespace Go.Proofs.Ytaiifcnjmbpbjaa
namespace V
set_option linter.unusedVariables false
set_option linter.unusedSimpArgs false
open Go.RowKit

/-! ### Memory -/
structure Snap where
  lo : Nat
  hi : Nat
  w : World
def Agr (s : Snap) (w : World) : Prop := s.hi ≤ w.heap.size ∧ ∀ k, s.lo ≤ k → k < s.hi → w.heap[k]? = s.w.heap[k]?
/-- But for the blocks of 'X', what was there is as it was. -/
structure BelowX (X : List Nat) (w w' : World) : Prop where
  os : w'.os = w.os
  tape : w'.tape = w.tape
  output : w'.output = w.output
  size : w.heap.size ≤ w'.heap.size
  block : ∀ k, k < w.heap.size → k ∉ X → w'.heap[k]? = w.heap[k]?
theorem BelowX.refl (X : List Nat) (w : World) : BelowX X w w := ⟨rfl, rfl, rfl, Nat.le_refl _, fun _ _ _ => rfl⟩
theorem BelowX.trans {X : List Nat} {a b c : World} (h : BelowX X a b) (k : BelowX X b c) : BelowX X a c :=
  ⟨k.os.trans h.os, k.tape.trans h.tape, k.output.trans h.output, Nat.le_trans h.size k.size, fun i hi hx => (k.block i (Nat.lt_of_lt_of_le hi h.size) hx).trans (h.block i hi hx)⟩
theorem BelowX.of {w w' : World} (X : List Nat) (h : Below w.heap.size w w') : BelowX X w w' := ⟨h.os, h.tape, h.output, h.size, fun k hk _ => h.block k hk⟩
theorem BelowX.below {w w' : World} (h : BelowX [] w w') : Below w.heap.size w w' := ⟨h.os, h.tape, h.output, h.size, fun k hk => h.block k hk (by simp)⟩
/-- Where the walk began, and the blocks that were lent to it for writing. -/
structure Base where
  w : World
  X : List Nat
structure Now (w0 : Base) (Sn : List Snap) (O : List (Nat × Obj)) (w : World) : Prop where
  base : BelowX w0.X w0.w w
  snap : ∀ s, s ∈ Sn → Agr s w
  own : ∀ (j : Nat) (p : Nat × Obj), O[j]? = some p → w.heap[p.1]? = some p.2
  fresh : ∀ p : Nat × Obj, p ∈ O → w0.w.heap.size ≤ p.1 ∨ p.1 ∈ w0.X
  apart : ∀ p : Nat × Obj, p ∈ O → ∀ s, s ∈ Sn → p.1 < s.lo ∨ s.hi ≤ p.1
  one : ∀ (i j : Nat) (p q : Nat × Obj), O[i]? = some p → O[j]? = some q → p.1 = q.1 → i = j

section
variable {w0 : Base} {w w' : World} {Sn : List Snap} {O : List (Nat × Obj)}

theorem Now.init (w : World) : Now ⟨w, []⟩ [⟨0, w.heap.size, w⟩] [] w :=
  ⟨BelowX.refl _ _, fun s hs => by simp at hs; subst hs; exact ⟨Nat.le_refl _, fun _ _ _ => rfl⟩, fun j p h => by simp at h, fun p h => by simp at h, fun p h => by simp at h, fun i j p q h => by simp at h⟩
theorem Now.lt (h : Now w0 Sn O w) {j : Nat} {p : Nat × Obj} (hp : O[j]? = some p) : p.1 < w.heap.size :=
  (Array.getElem?_eq_some_iff.1 (h.own j p hp)).1
theorem mem_get {α : Type} {l : List α} {p : α} (h : p ∈ l) : ∃ j : Nat, l[j]? = some p := by
  obtain ⟨j, hj, e⟩ := List.mem_iff_getElem.1 h; exact ⟨j, by rw [List.getElem?_eq_getElem hj, e]⟩
theorem get_mem {α : Type} {l : List α} {p : α} {j : Nat} (h : l[j]? = some p) : p ∈ l := List.mem_of_getElem? h
theorem Now.below (h : Now w0 Sn O w) (hb : Below w.heap.size w w') : Now w0 Sn O w' where
  base := h.base.trans (BelowX.of _ hb)
  snap := fun s hs => ⟨Nat.le_trans (h.snap s hs).1 hb.size, fun k h1 h2 => by rw [hb.block k (Nat.lt_of_lt_of_le h2 (h.snap s hs).1)]; exact (h.snap s hs).2 k h1 h2⟩
  own := fun j p hp => by rw [hb.block _ (h.lt hp)]; exact h.own j p hp
  fresh := h.fresh
  apart := h.apart
  one := h.one
theorem Now.draw (h : Now w0 Sn O w) : Now w0 Sn O { w with drawn := w.drawn + 1 } := h.below ⟨rfl, rfl, rfl, Nat.le_refl _, fun _ _ => rfl⟩
theorem Now.alloc (h : Now w0 Sn O w) (o : Obj) : Now w0 Sn ((w.heap.size, o) :: O) (w.alloc o) := by
  have hb : Below w.heap.size w (w.alloc o) := (Below.refl _ _).alloc (Nat.le_refl _) o
  have h' := h.below hb
  refine ⟨h'.base, h'.snap, ?_, ?_, ?_, ?_⟩
  · intro j p hp
    cases j with
    | zero => simp at hp; subst hp; exact heap_alloc_new w o
    | succ j => exact h'.own j p (by simpa using hp)
  · intro p hp
    rcases List.mem_cons.1 hp with rfl | hp
    · exact .inl h.base.size
    · exact h.fresh p hp
  · intro p hp s hs
    rcases List.mem_cons.1 hp with rfl | hp
    · exact .inr (h.snap s hs).1
    · exact h.apart p hp s hs
  · intro i j p q hp hq e
    cases i with
    | zero =>
      cases j with
      | zero => rfl
      | succ j => simp at hp; subst hp; have := h.lt (j := j) (p := q) (by simpa using hq); rw [← e] at this; simp at this
    | succ i =>
      cases j with
      | zero => simp at hq; subst hq; have := h.lt (j := i) (p := p) (by simpa using hp); rw [e] at this; simp at this
      | succ j => rw [h.one i j p q (by simpa using hp) (by simpa using hq) e]
theorem Now.setRow (h : Now w0 Sn O w) {i b : Nat} {cur : Array Value} {t : TypeId} {fr : Nat × Nat} (hi : O[i]? = some (b, .cells cur t fr)) (new : Array Value) :
    Now w0 Sn (O.set i (b, .cells new t fr)) (w.setRow b new) := by
  have hlt : i < O.length := (List.getElem?_eq_some_iff.1 hi).1
  have hset : ∀ (j : Nat) (p : Nat × Obj), (O.set i (b, .cells new t fr))[j]? = some p → (j = i ∧ p = (b, .cells new t fr)) ∨ (j ≠ i ∧ O[j]? = some p) := by
    intro j p hp
    by_cases e : j = i
    · subst e; rw [List.getElem?_set_self hlt] at hp; simp at hp; exact .inl ⟨rfl, hp.symm⟩
    · rw [List.getElem?_set_ne (Ne.symm e)] at hp; exact .inr ⟨e, hp⟩
  have hkey : ∀ (j : Nat) (p : Nat × Obj), (O.set i (b, .cells new t fr))[j]? = some p → ∃ q, O[j]? = some q ∧ q.1 = p.1 := by
    intro j p hp
    rcases hset j p hp with ⟨rfl, rfl⟩ | ⟨_, h1⟩
    · exact ⟨_, hi, rfl⟩
    · exact ⟨p, h1, rfl⟩
  have hown := h.own i _ hi
  refine ⟨?_, ?_, ?_, ?_, ?_, ?_⟩
  · refine ⟨h.base.os, h.base.tape, h.base.output, by simpa using h.base.size, fun k hk hx => ?_⟩
    rw [setRow_other _ _ _ _ (fun e => by
      subst e
      rcases h.fresh _ (get_mem hi) with h1 | h1
      · simp at h1; omega
      · exact hx h1)]
    exact h.base.block k hk hx
  · intro s hs
    refine ⟨by simpa using (h.snap s hs).1, fun k h1 h2 => ?_⟩
    rw [setRow_other _ _ _ _ (by have := h.apart _ (get_mem hi) s hs; simp at this; omega)]
    exact (h.snap s hs).2 k h1 h2
  · intro j p hp
    rcases hset j p hp with ⟨rfl, rfl⟩ | ⟨e, h1⟩
    · exact setRow_heap w b cur new t fr hown
    · rw [setRow_other _ _ _ _ (fun e2 => e (h.one j i p _ h1 hi (by simpa using e2)))]; exact h.own j p h1
  · intro p hp
    obtain ⟨j, hj⟩ := mem_get hp
    obtain ⟨q, hq, e⟩ := hkey j p hj
    rw [← e]; exact h.fresh q (get_mem hq)
  · intro p hp s hs
    obtain ⟨j, hj⟩ := mem_get hp
    obtain ⟨q, hq, e⟩ := hkey j p hj
    rw [← e]; exact h.apart q (get_mem hq) s hs
  · intro i' j p q hp hq e
    obtain ⟨p', hp', e1⟩ := hkey i' p hp
    obtain ⟨q', hq', e2⟩ := hkey j q hq
    exact h.one i' j p' q' hp' hq' (by rw [e1, e2, e])
/-- Behind a call: what it has made is a new snapshot. -/
theorem Now.snapAdd (h : Now w0 Sn O w) (hb : Below w.heap.size w w') : Now w0 (⟨w.heap.size, w'.heap.size, w'⟩ :: Sn) O w' := by
  have h' := h.below hb
  refine ⟨h'.base, ?_, h'.own, h'.fresh, ?_, h'.one⟩
  · intro s hs
    rcases List.mem_cons.1 hs with rfl | hs
    · exact ⟨Nat.le_refl _, fun _ _ _ => rfl⟩
    · exact h'.snap s hs
  · intro p hp s hs
    rcases List.mem_cons.1 hs with rfl | hs
    · obtain ⟨j, hj⟩ := mem_get hp
      exact .inl (h.lt hj)
    · exact h.apart p hp s hs
/-- The first of the call's own blocks is written no more. -/
theorem Now.freeze {b : Nat} {o : Obj} (h : Now w0 Sn ((b, o) :: O) w) : Now w0 (⟨b, b + 1, w⟩ :: Sn) O w := by
  refine ⟨h.base, ?_, fun j p hp => h.own (j + 1) p (by simpa using hp), fun p hp => h.fresh p (.tail _ hp), ?_, fun i j p q hp hq e => by
    have := h.one (i + 1) (j + 1) p q (by simpa using hp) (by simpa using hq) e; omega⟩
  · intro s hs
    rcases List.mem_cons.1 hs with rfl | hs
    · exact ⟨h.lt (j := 0) (p := (b, o)) rfl, fun _ _ _ => rfl⟩
    · exact h.snap s hs
  · intro p hp s hs
    rcases List.mem_cons.1 hs with rfl | hs
    · obtain ⟨j, hj⟩ := mem_get hp
      have hne : p.1 ≠ b := fun e => by
        have := h.one (j + 1) 0 p (b, o) (by simpa using hj) rfl e
        omega
      simp only; omega
    · exact h.apart p (.tail _ hp) s hs
theorem Now.drop {p : Nat × Obj} (h : Now w0 Sn (p :: O) w) : Now w0 Sn O w :=
  ⟨h.base, h.snap, fun j q hq => h.own (j + 1) q (by simpa using hq), fun q hq => h.fresh q (.tail _ hq), fun q hq => h.apart q (.tail _ hq), fun i j a b ha hb e => by
    have := h.one (i + 1) (j + 1) a b (by simpa using ha) (by simpa using hb) e; omega⟩
/-- A callee has written into one of the own blocks. -/
theorem Now.turn (h : Now w0 Sn O w) {i b : Nat} {o o' : Obj} (hi : O[i]? = some (b, o)) (hb : BelowX [b] w w') (ho : w'.heap[b]? = some o') : Now w0 Sn (O.set i (b, o')) w' := by
  have hlt : i < O.length := (List.getElem?_eq_some_iff.1 hi).1
  have hset : ∀ (j : Nat) (p : Nat × Obj), (O.set i (b, o'))[j]? = some p → (j = i ∧ p = (b, o')) ∨ (j ≠ i ∧ O[j]? = some p) := by
    intro j p hp
    by_cases e : j = i
    · subst e; rw [List.getElem?_set_self hlt] at hp; simp at hp; exact .inl ⟨rfl, hp.symm⟩
    · rw [List.getElem?_set_ne (Ne.symm e)] at hp; exact .inr ⟨e, hp⟩
  have hkey : ∀ (j : Nat) (p : Nat × Obj), (O.set i (b, o'))[j]? = some p → ∃ q, O[j]? = some q ∧ q.1 = p.1 := by
    intro j p hp
    rcases hset j p hp with ⟨rfl, rfl⟩ | ⟨_, h1⟩
    · exact ⟨_, hi, rfl⟩
    · exact ⟨p, h1, rfl⟩
  have hblt : b < w.heap.size := h.lt hi
  have hf := h.fresh _ (get_mem hi)
  refine ⟨⟨hb.os.trans h.base.os, hb.tape.trans h.base.tape, hb.output.trans h.base.output, Nat.le_trans h.base.size hb.size, fun k hk hx => ?_⟩, ?_, ?_, ?_, ?_, ?_⟩
  · rw [hb.block k (Nat.lt_of_lt_of_le hk h.base.size) (fun e => by
      simp at e; subst e
      rcases hf with h1 | h1
      · simp at h1; omega
      · exact hx h1)]
    exact h.base.block k hk hx
  · intro s hs
    refine ⟨Nat.le_trans (h.snap s hs).1 hb.size, fun k h1 h2 => ?_⟩
    rw [hb.block k (Nat.lt_of_lt_of_le h2 (h.snap s hs).1) (by have := h.apart _ (get_mem hi) s hs; simp at this ⊢; omega)]
    exact (h.snap s hs).2 k h1 h2
  · intro j p hp
    rcases hset j p hp with ⟨rfl, rfl⟩ | ⟨e, h1⟩
    · exact ho
    · rw [hb.block _ (h.lt h1) (by simp; exact fun e2 => e (h.one j i p _ h1 hi (by simpa using e2)))]; exact h.own j p h1
  · intro p hp
    obtain ⟨j, hj⟩ := mem_get hp
    obtain ⟨q, hq, e⟩ := hkey j p hj
    rw [← e]; exact h.fresh q (get_mem hq)
  · intro p hp s hs
    obtain ⟨j, hj⟩ := mem_get hp
    obtain ⟨q, hq, e⟩ := hkey j p hj
    rw [← e]; exact h.apart q (get_mem hq) s hs
  · intro i' j p q hp hq e
    obtain ⟨p', hp', e1⟩ := hkey i' p hp
    obtain ⟨q', hq', e2⟩ := hkey j q hq
    exact h.one i' j p' q' hp' hq' (by rw [e1, e2, e])
/-- A walk that one block is lent to. -/
theorem Now.init1 {b : Nat} {o : Obj} (w : World) (hb : w.heap[b]? = some o) : Now ⟨w, [b]⟩ [⟨0, b, w⟩, ⟨b + 1, w.heap.size, w⟩] [(b, o)] w := by
  have hlt : b < w.heap.size := (Array.getElem?_eq_some_iff.1 hb).1
  refine ⟨BelowX.refl _ _, ?_, ?_, ?_, ?_, ?_⟩
  · intro s hs
    simp at hs
    rcases hs with rfl | rfl
    · exact ⟨Nat.le_of_lt hlt, fun _ _ _ => rfl⟩
    · exact ⟨Nat.le_refl _, fun _ _ _ => rfl⟩
  · intro j p hp
    cases j with
    | zero => simp at hp; subst hp; exact hb
    | succ j => simp at hp
  · intro p hp; simp at hp; subst hp; exact .inr (by simp)
  · intro p hp s hs
    simp at hp hs; subst hp
    rcases hs with rfl | rfl
    · exact .inr (Nat.le_refl _)
    · exact .inl (Nat.lt_succ_self _)
  · intro i j p q hp hq e
    cases i <;> cases j <;> simp at hp hq ⊢
theorem Now.sn1 {s : Snap} (h : Now w0 (s :: Sn) O w) : Now w0 Sn O w :=
  ⟨h.base, fun t ht => h.snap t (.tail _ ht), h.own, h.fresh, fun p hp t ht => h.apart p hp t (.tail _ ht), h.one⟩
theorem Now.swap {a b : Nat × Obj} (h : Now w0 Sn (a :: b :: O) w) : Now w0 Sn (b :: a :: O) w := by
  refine ⟨h.base, h.snap, ?_, fun p hp => h.fresh p (by simp at hp ⊢; rcases hp with h | h | h <;> simp [h]), fun p hp => h.apart p (by simp at hp ⊢; rcases hp with h | h | h <;> simp [h]), ?_⟩
  · intro j p hp
    match j with
    | 0 => exact h.own 1 p hp
    | 1 => exact h.own 0 p hp
    | j + 2 => exact h.own (j + 2) p hp
  · intro i j p q hp hq e
    have f : ∀ (i : Nat) (p : Nat × Obj), (b :: a :: O)[i]? = some p → (a :: b :: O)[if i = 0 then 1 else if i = 1 then 0 else i]? = some p := by
      intro i p hp
      match i with
      | 0 => exact hp
      | 1 => exact hp
      | i + 2 => simpa using hp
    have := h.one _ _ p q (f i p hp) (f j q hq) e
    split at this <;> split at this <;> (try split at this) <;> (try split at this) <;> omega
/-- Some snapshots only, or the same one twice. -/
theorem Now.sub (h : Now w0 Sn O w) {Sn' : List Snap} (hs : ∀ s, s ∈ Sn' → s ∈ Sn) : Now w0 Sn' O w :=
  ⟨h.base, fun t ht => h.snap t (hs t ht), h.own, h.fresh, fun p hp t ht => h.apart p hp t (hs t ht), h.one⟩
theorem Now.again (h : Now w0 Sn O w) {s : Snap} (hs : s ∈ Sn) : Now w0 (s :: Sn) O w :=
  h.sub fun t ht => by rcases List.mem_cons.1 ht with rfl | ht <;> assumption
/-- All that is known lies below a block. -/
structure Bd (w0 : Base) (B : Nat) (Sn : List Snap) (O : List (Nat × Obj)) : Prop where
  base : w0.w.heap.size ≤ B
  snap : ∀ s, s ∈ Sn → s.hi ≤ B
  own : ∀ p : Nat × Obj, p ∈ O → p.1 < B
theorem Now.bd (h : Now w0 Sn O w) : Bd w0 w.heap.size Sn O := ⟨h.base.size, fun s hs => (h.snap s hs).1, fun p hp => by obtain ⟨j, hj⟩ := mem_get hp; exact h.lt hj⟩
/-- What lies from B on in a new world is a snapshot. -/
theorem Now.snapX (h : Now w0 Sn O w) {B : Nat} (hB : Bd w0 B Sn O) : Now w0 (⟨B, w.heap.size, w⟩ :: Sn) O w := by
  refine ⟨h.base, ?_, h.own, h.fresh, ?_, h.one⟩
  · intro s hs
    rcases List.mem_cons.1 hs with rfl | hs
    · exact ⟨Nat.le_refl _, fun _ _ _ => rfl⟩
    · exact h.snap s hs
  · intro p hp s hs
    rcases List.mem_cons.1 hs with rfl | hs
    · exact .inl (hB.own p hp)
    · exact h.apart p hp s hs
theorem Bd.set {B : Nat} (h : Bd w0 B Sn O) {i b : Nat} {o o' : Obj} (hi : O[i]? = some (b, o)) : Bd w0 B Sn (O.set i (b, o')) :=
  ⟨h.base, h.snap, fun p hp => by
    rcases List.mem_or_eq_of_mem_set hp with h1 | h1
    · exact h.own p h1
    · subst h1; have := h.own _ (get_mem hi); simpa using this⟩
theorem Now.cell (h : Now w0 Sn O w) {i b k : Nat} {cs : Array Value} {t : TypeId} {fr : Nat × Nat} (hi : O[i]? = some (b, .cells cs t fr)) : w.cell? ⟨b, k, none⟩ = cs[k]? :=
  cell_of_row w b k cs t fr (h.own i _ hi)
end

/-! ### Slices that are read -/
/-- A type whose values are a fixed number of cells and lead nowhere. -/
class Flat (α : Type) where
  enc : α → List Value
  k : Nat
  len : ∀ x, (enc x).length = k
  one : ∀ x v, v ∈ enc x → v.oneCell' = true
open Flat (enc)
instance : Flat Int := ⟨fun n => [.int .i64 n], 1, fun _ => rfl, fun _ _ h => by simp at h; subst h; rfl⟩
instance : Flat UInt8 := ⟨fun n => [.int .u8 n.toNat], 1, fun _ => rfl, fun _ _ h => by simp at h; subst h; rfl⟩
instance : Flat ByteArray := ⟨fun s => [.string s], 1, fun _ => rfl, fun _ _ h => by simp at h; subst h; rfl⟩
instance : Flat Bool := ⟨fun s => [.bool s], 1, fun _ => rfl, fun _ _ h => by simp at h; subst h; rfl⟩

/-- The rows of cells lie in one block, row behind row. -/
def SlG (lo hi : Nat) (w : World) (a : Option Addr) (rows : List (List Value)) : Prop :=
  rows = [] ∨ ∃ b off, a = some ⟨b, off, none⟩ ∧ lo ≤ b ∧ b < hi ∧ ∀ j v, rows.flatten[j]? = some v → w.cell? ⟨b, off + j, none⟩ = some v
def SlF {α : Type} [Flat α] (lo hi : Nat) (w : World) (a : Option Addr) (xs : List α) : Prop := SlG lo hi w a (xs.map enc)

theorem SlG.frame {lo hi : Nat} {w w' : World} {a : Option Addr} {rows : List (List Value)} (h : SlG lo hi w a rows) (hw : ∀ k, lo ≤ k → k < hi → w'.heap[k]? = w.heap[k]?) : SlG lo hi w' a rows := by
  rcases h with h | ⟨b, off, rfl, h1, h2, h3⟩
  · exact .inl h
  · exact .inr ⟨b, off, rfl, h1, h2, fun j v hv => by rw [World.cell?_of_block (w := w) (by exact hw b h1 h2)]; exact h3 j v hv⟩
theorem SlG.mono {lo hi lo' hi' : Nat} {w : World} {a : Option Addr} {rows : List (List Value)} (h : SlG lo hi w a rows) (h1 : lo' ≤ lo) (h2 : hi ≤ hi') : SlG lo' hi' w a rows := by
  rcases h with h | ⟨b, off, rfl, h3, h4, h5⟩
  · exact .inl h
  · exact .inr ⟨b, off, rfl, by omega, by omega, h5⟩
theorem SlF.frame {α : Type} [Flat α] {lo hi : Nat} {w w' : World} {a : Option Addr} {xs : List α} (h : SlF lo hi w a xs) (hw : ∀ k, lo ≤ k → k < hi → w'.heap[k]? = w.heap[k]?) : SlF lo hi w' a xs := SlG.frame h hw
theorem SlF.mono {α : Type} [Flat α] {lo hi lo' hi' : Nat} {w : World} {a : Option Addr} {xs : List α} (h : SlF lo hi w a xs) (h1 : lo' ≤ lo) (h2 : hi ≤ hi') : SlF lo' hi' w a xs := SlG.mono h h1 h2
/-- Read out of a snapshot, now. -/
theorem SlG.now {w0 : Base} {w ws : World} {Sn : List Snap} {O : List (Nat × Obj)} {lo hi : Nat} {a : Option Addr} {rows : List (List Value)} (S : Now w0 Sn O w) (hm : Snap.mk lo hi ws ∈ Sn) (h : SlG lo hi ws a rows) : SlG 0 w.heap.size w a rows :=
  (h.frame (S.snap _ hm).2).mono (Nat.zero_le _) (S.snap _ hm).1
theorem SlF.now {α : Type} [Flat α] {w0 : Base} {w ws : World} {Sn : List Snap} {O : List (Nat × Obj)} {lo hi : Nat} {a : Option Addr} {xs : List α} (S : Now w0 Sn O w) (hm : Snap.mk lo hi ws ∈ Sn) (h : SlF lo hi ws a xs) : SlF 0 w.heap.size w a xs :=
  SlG.now S hm h

theorem flat_get {k : Nat} : ∀ (rows : List (List Value)) (hk : ∀ r, r ∈ rows → r.length = k) (i f : Nat) (r : List Value), rows[i]? = some r → f < k → rows.flatten[i * k + f]? = r[f]?
  | [], _, i, f, r, h, _ => by simp at h
  | r0 :: rows, hk, 0, f, r, h, hf => by
    simp at h; subst h
    have := hk r0 (by simp)
    simp only [Nat.zero_mul, Nat.zero_add, List.flatten_cons]
    rw [List.getElem?_append_left (by omega)]
  | r0 :: rows, hk, i + 1, f, r, h, hf => by
    have h0 := hk r0 (by simp)
    simp only [List.flatten_cons]
    rw [List.getElem?_append_right (by rw [h0, Nat.add_mul]; omega), h0, show (i + 1) * k + f - k = i * k + f by rw [Nat.add_mul]; omega]
    exact flat_get rows (fun x hx => hk x (by simp [hx])) i f r (by simpa using h) hf

/-- The address of a slice's cell j. -/
@[irreducible] def ea (a : Option Addr) (j : Nat) : Addr := ⟨(a.getD default).block, (a.getD default).off + j, none⟩
theorem ea_some (b off j : Nat) : ea (some ⟨b, off, none⟩) j = ⟨b, off + j, none⟩ := by unfold ea; rfl
theorem ea_add (a : Option Addr) (j n : Nat) : (ea a j).add n = ea a (j + n) := by
  unfold ea Addr.add
  split
  · rename_i h; subst h; rfl
  · simp [Nat.add_assoc]
theorem SlG.get {lo hi k : Nat} {w : World} {a : Option Addr} {rows : List (List Value)} (h : SlG lo hi w a rows) (hk : ∀ r, r ∈ rows → r.length = k) {i f : Nat} {r : List Value} {v : Value} (hr : rows[i]? = some r) (hv : r[f]? = some v) :
    w.cell? (ea a (i * k + f)) = some v := by
  rcases h with rfl | ⟨b, off, rfl, h1, h2, h3⟩
  · simp at hr
  · rw [ea_some]
    refine h3 _ _ ?_
    have hf : f < r.length := (List.getElem?_eq_some_iff.1 hv).1
    rw [flat_get rows hk i f r hr (by rw [← hk r (get_mem hr)]; exact hf)]; exact hv

/-! ### The program's types, as facts that are found by themselves -/
class CSl (P : Program) (T : TypeId) (e : outParam TypeId) : Prop where
  run : ∀ w, (underlying T).run P w = .ok (.slice e) w
  u : P.underlying T = some (.slice e)
class CE (P : Program) (e : TypeId) (k : outParam Nat) (bytes : outParam Nat) : Prop where ex : ∃ i z, P.info? e = some i ∧ i.zero = some z ∧ i.size = k ∧ i.bytes = bytes ∧ z.cells.size = k
class CAr (P : Program) (T : TypeId) (n : outParam Nat) (e : outParam TypeId) : Prop where run : ∀ w, (underlying T).run P w = .ok (.array n e) w
class CIn (P : Program) (T : TypeId) : Prop where run : ∀ w, (underlying T).run P w = .ok (.int .i64) w
class CU8 (P : Program) (T : TypeId) : Prop where run : ∀ w, (underlying T).run P w = .ok (.int .u8) w
/-- A struct's fields: the offset and the size of each. -/
class CB (P : Program) (T : TypeId) (pl : outParam (List (Nat × Nat))) : Prop where run : ∀ w, ∃ fs, (underlying T).run P w = .ok (.struct fs) w ∧ (fs.mapM fun f => (do pure (f.offset, ← sizeOf f.type) : Sem (Nat × Nat))).run P w = .ok pl.toArray w
class CBo (P : Program) (T : TypeId) : Prop where run : ∀ w, (underlying T).run P w = .ok .bool w
class CSt (P : Program) (T : TypeId) : Prop where run : ∀ w, (underlying T).run P w = .ok .string w
class CS (P : Program) (T : TypeId) (k : outParam Nat) : Prop where run : ∀ w, (sizeOf T).run P w = .ok k w
class CA (P : Program) (T : TypeId) (b : outParam Bool) : Prop where run : ∀ w, (isAgg T).run P w = .ok b w
class CZ (P : Program) (T : TypeId) (z : outParam Value) : Prop where run : ∀ w, (zeroValue T).run P w = .ok z w
class CY (P : Program) (T : TypeId) (n : outParam Nat) : Prop where run : ∀ w, ∃ i, (typeInfo T).run P w = .ok i w ∧ i.bytes = n
class CF (P : Program) (T : TypeId) (f : Nat) (off : outParam Nat) : Prop where run : ∀ a w, (Instr.fieldAt T (.pointer (some a)) f).run P w = .ok (.pointer (some (a.add off))) w
end V
end Go.Proofs.Ytaiifcnjmbpbjaa
