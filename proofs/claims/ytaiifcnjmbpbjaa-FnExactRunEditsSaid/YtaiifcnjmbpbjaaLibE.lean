/- Slices that the call itself makes and that grow; append, literals of slices and structs. No condition. -/
import Derived.Test.YtaiifcnjmbpbjaaLibD
import Derived.Deep.AppendSrc
import Derived.Deep.Upon
namespace Go.Proofs.Ytaiifcnjmbpbjaa
namespace V
open Flat (enc)
set_option linter.unusedVariables false
set_option linter.unusedSimpArgs false
open Go.RowKit

/-- The block of a slice that may grow: none (nil), or one whose first cells are 'xs'. -/
def Gr (E : List (Nat × Obj)) (e : TypeId) (k : Nat) (v : Value) (n : Nat) (xs : List Value) : Prop :=
  xs.length = n * k ∧ ((E = [] ∧ v = .slice none 0 0 ∧ n = 0) ∨
  ∃ g cap cur, E = [(g, .cells cur e (0, 0))] ∧ v = .slice (some ⟨g, 0, none⟩) n cap ∧ n ≤ cap ∧ cap ≤ maxLen ∧ cur.size = cap * k ∧ cur.toList.take (n * k) = xs)

section
variable {P : Program} {w0 : Base} {w : World} {Sn : List Snap} {O O1 O2 E : List (Nat × Obj)}

theorem Now.perm (S : Now w0 Sn O w) {O' : List (Nat × Obj)} (h1 : ∀ p, p ∈ O' → p ∈ O) (h2 : ∀ (i j : Nat) (p q : Nat × Obj), O'[i]? = some p → O'[j]? = some q → p.1 = q.1 → i = j) : Now w0 Sn O' w :=
  ⟨S.base, S.snap, fun j p hp => by obtain ⟨i, hi⟩ := mem_get (h1 p (get_mem hp)); exact S.own i p hi, fun p hp => S.fresh p (h1 p hp), fun p hp => S.apart p (h1 p hp), h2⟩
/-- The list of own blocks without the piece in its midst. -/
theorem Now.cut (S : Now w0 Sn (O1 ++ (E ++ O2)) w) : Now w0 Sn (O1 ++ O2) w := by
  refine S.perm (fun p hp => by rcases List.mem_append.1 hp with h | h <;> simp [h]) ?_
  intro i j p q hi hj e
  have key : ∀ (i : Nat) (p : Nat × Obj), (O1 ++ O2)[i]? = some p → ∃ i', (O1 ++ (E ++ O2))[i']? = some p ∧ (i < O1.length → i' = i) ∧ (O1.length ≤ i → i' = i + E.length) := by
    intro i p h
    by_cases hlt : i < O1.length
    · rw [List.getElem?_append_left hlt] at h
      exact ⟨i, by rw [List.getElem?_append_left hlt]; exact h, fun _ => rfl, fun h => by omega⟩
    · rw [List.getElem?_append_right (by omega)] at h
      refine ⟨i + E.length, ?_, fun h => by omega, fun _ => rfl⟩
      rw [List.getElem?_append_right (by omega), List.getElem?_append_right (by omega), ← h]
      congr 1; omega
  obtain ⟨i', h1, a1, b1⟩ := key i p hi
  obtain ⟨j', h2, a2, b2⟩ := key j q hj
  have := S.one i' j' p q h1 h2 e
  rcases Nat.lt_or_ge i O1.length with h | h <;> rcases Nat.lt_or_ge j O1.length with h' | h'
  · rw [a1 h, a2 h'] at this; exact this
  · rw [a1 h, b2 h'] at this; omega
  · rw [b1 h, a2 h'] at this; omega
  · rw [b1 h, b2 h'] at this; omega
/-- A block that lies behind all that is known takes a place in the midst. -/
theorem Now.insB {B : Nat} (S' : Now w0 Sn (O1 ++ O2) w) (hB : Bd w0 B Sn (O1 ++ O2)) {g : Nat} {o : Obj} (hg : w.heap[g]? = some o) (hf : B ≤ g) : Now w0 Sn (O1 ++ ([(g, o)] ++ O2)) w := by
  have hlt : ∀ p, p ∈ O1 ++ O2 → p.1 < B := hB.own
  have hsub : ∀ p, p ∈ O1 ++ ([(g, o)] ++ O2) → p = (g, o) ∨ p ∈ O1 ++ O2 := by
    intro p hp; simp only [List.mem_append, List.mem_singleton] at hp ⊢; rcases hp with h | h | h <;> simp [h]
  have key : ∀ (i : Nat) (p : Nat × Obj), (O1 ++ ([(g, o)] ++ O2))[i]? = some p → (i = O1.length ∧ p = (g, o)) ∨ ∃ i', (O1 ++ O2)[i']? = some p ∧ ((i < O1.length ∧ i' = i) ∨ (O1.length < i ∧ i' + 1 = i)) := by
    intro i p h
    by_cases hl : i < O1.length
    · rw [List.getElem?_append_left hl] at h
      exact .inr ⟨i, by rw [List.getElem?_append_left hl]; exact h, .inl ⟨hl, rfl⟩⟩
    · rw [List.getElem?_append_right (by omega)] at h
      by_cases he : i = O1.length
      · subst he; simp at h; exact .inl ⟨rfl, h.symm⟩
      · refine .inr ⟨i - 1, ?_, .inr ⟨by omega, by omega⟩⟩
        rw [List.getElem?_append_right (by omega)]
        rw [show i - O1.length = (i - 1 - O1.length) + 1 by omega] at h
        simpa using h
  refine ⟨S'.base, S'.snap, ?_, ?_, ?_, ?_⟩
  · intro j p hp
    rcases hsub p (get_mem hp) with rfl | h
    · exact hg
    · obtain ⟨i, hi⟩ := mem_get h; exact S'.own i p hi
  · intro p hp
    rcases hsub p hp with rfl | h
    · exact .inl (Nat.le_trans hB.base hf)
    · exact S'.fresh p h
  · intro p hp s hs
    rcases hsub p hp with rfl | h
    · exact .inr (Nat.le_trans (hB.snap s hs) hf)
    · exact S'.apart p h s hs
  · intro i j p q hi hj e
    rcases key i p hi with ⟨rfl, rfl⟩ | ⟨i', h1, c1⟩ <;> rcases key j q hj with ⟨rfl, rfl⟩ | ⟨j', h2, c2⟩
    · rfl
    · have := hlt q (get_mem h2); simp at e; omega
    · have := hlt p (get_mem h1); simp at e; omega
    · have := S'.one i' j' p q h1 h2 e; omega

/-- A new own block takes a place in the midst. -/
theorem Now.ins (S : Now w0 Sn (O1 ++ O2) w) {w' : World} (hb : Below w.heap.size w w') {g : Nat} {o : Obj} (hg : w'.heap[g]? = some o) (hf : w.heap.size ≤ g) : Now w0 Sn (O1 ++ ([(g, o)] ++ O2)) w' :=
  (S.below hb).insB S.bd hg hf

theorem set_mid (x y : Nat × Obj) : (O1 ++ ([x] ++ O2)).set O1.length y = O1 ++ ([y] ++ O2) := by simp

theorem append_my (S : Now w0 Sn (O1 ++ (E ++ O2)) w) {t ty e : TypeId} {k bytes : Nat} [T : CSl P t e] [Z : CE P e k bytes] {v : Value} {n : Nat} {xs : List Value} (hE : Gr E e k v n xs)
    {ad : Option Addr} {m c : Nat} {news : List Value} (hl : news.length = m * k) (hnews : m = 0 ∨ ∃ a, ad = some a ∧ ∀ j u, news[j]? = some u → w.cell? (a.add j) = some u) (h1 : ∀ u ∈ news, u.oneCell' = true)
    (hbytes : (n + m) * bytes ≤ 140737488355328) (h63 : n + m ≤ 4611686018427387904) :
    ∃ v' w' E', (Builtin.append_ #[t, t] ty #[v, .slice ad m c]).run P w = .ok v' w' ∧ Now w0 Sn (O1 ++ (E' ++ O2)) w' ∧ Gr E' e k v' (n + m) (xs ++ news) := by
  obtain ⟨i, z, hi, hz, hk, hby, hzk⟩ := Z.ex
  subst hk; subst hby
  have hml : maxLen = 9223372036854775807 := rfl
  have hlen : (xs ++ news).length = (n + m) * i.size := by rw [List.length_append, hE.1, hl, Nat.add_mul]
  by_cases hm : m = 0
  · subst hm
    have hn : news = [] := List.eq_nil_of_length_eq_zero (by simpa using hl)
    subst hn
    have hsrc : Src P i.size t (.slice ad 0 c) 0 [] w := by
      cases ad with
      | none => exact Src.ofNil w T.u c
      | some a => exact Src.ofSlice w T.u a 0 c [] (by simp) (by simp) (by simp)
    have : ∃ b l cp, v = .slice b l cp ∧ l ≤ cp := by
      rcases hE.2 with ⟨_, rfl, _⟩ | ⟨g, cap, cur, _, rfl, hc, _⟩
      · exact ⟨_, _, _, rfl, Nat.le_refl _⟩
      · exact ⟨_, _, _, rfl, hc⟩
    obtain ⟨b, l, cp, rfl, hle⟩ := this
    exact ⟨_, w, E, run_append_nothing w t t ty e i T.u hi b l cp hle _ hsrc, S, by simpa using hE⟩
  · obtain ⟨a, rfl, hcell⟩ := hnews.resolve_left hm
    have fresh : ∀ (old : Nat) (ob : Array Value), old < n + m → ob.toList = xs →
        Now w0 Sn (O1 ++ ([(w.heap.size, .cells (ob ++ news.toArray ++ Builtin.zeroCells z.cells (grownCap w (n + m) old e - (n + m))) e)] ++ O2)) (w.drew.alloc (.cells (ob ++ news.toArray ++ Builtin.zeroCells z.cells (grownCap w (n + m) old e - (n + m))) e)) ∧
        Gr [(w.heap.size, .cells (ob ++ news.toArray ++ Builtin.zeroCells z.cells (grownCap w (n + m) old e - (n + m))) e)] e i.size (.slice (some ⟨w.heap.size, 0, none⟩) (n + m) (grownCap w (n + m) old e)) (n + m) (xs ++ news) := by
      intro old ob ho hob
      have hge := grownCap_ge w (n + m) old e
      have hcm : grownCap w (n + m) old e ≤ maxLen := grownCap_le_maxLen w (n + m) old e (by omega)
      refine ⟨S.cut.ins (((Below.refl _ _).drew).alloc (Nat.le_refl _) _) (heap_alloc_new w.drew _) (Nat.le_refl _), hlen, .inr ⟨_, _, _, rfl, rfl, hge, hcm, ?_, ?_⟩⟩
      · have : ob.size = n * i.size := by rw [← hE.1, ← hob]; simp
        simp only [Array.size_append, List.size_toArray, size_zeroCells, hzk, this, hl, ← Nat.add_mul]
        congr 1; omega
      · simp only [Array.toList_append, List.append_assoc, hob]
        rw [← List.append_assoc, ← hlen]
        exact List.take_left
    rcases hE.2 with ⟨rfl, rfl, rfl⟩ | ⟨g, cap, cur, rfl, rfl, hnc, hcm, hcs, htake⟩
    · have hx : xs = [] := List.eq_nil_of_length_eq_zero (by simpa using hE.1)
      subst hx
      have hr := run_append_nil (P := P) w t ty e i z T.u hi hz a m c news hl hcell (by omega) (by omega) (by simp only [Nat.zero_add] at hbytes; omega)
      have hgr := fresh 0 #[] (by omega) rfl
      simp only [Nat.zero_add, List.nil_append, Array.empty_append] at hgr ⊢
      exact ⟨_, _, _, hr, hgr.1, hgr.2⟩
    · have hpos : (O1 ++ ([(g, Obj.cells cur e (0, 0))] ++ O2))[O1.length]? = some (g, .cells cur e (0, 0)) := by
        rw [List.getElem?_append_right (Nat.le_refl _)]; simp
      by_cases hroom : n + m ≤ cap
      · have hfit : n * i.size + news.length ≤ cur.size := by rw [hl, hcs, ← Nat.add_mul]; exact Nat.mul_le_mul_right _ hroom
        have hr := run_append_room (P := P) w t ty e i T.u hi g n cap cur (S.own _ _ hpos) a m c news hl hcell h1 hroom hfit
        have S2 := S.setRow hpos (cur.toList.take (n * i.size) ++ news ++ cur.toList.drop (n * i.size + news.length)).toArray
        rw [set_mid] at S2
        refine ⟨_, _, _, hr, S2, hlen, .inr ⟨g, cap, _, rfl, rfl, hroom, hcm, ?_, ?_⟩⟩
        · simp only [List.size_toArray, List.length_append, List.length_take, List.length_drop, Array.length_toList]
          omega
        · rw [htake, ← hlen]
          exact List.take_left
      · have holds : ∀ j u, xs[j]? = some u → w.cell? ((⟨g, 0, none⟩ : Addr).add j) = some u := by
          intro j u hu
          have hadd : (⟨g, 0, none⟩ : Addr).add j = ⟨g, j, none⟩ := by unfold Addr.add; split <;> simp_all
          rw [hadd, S.cell hpos, ← hu, ← htake, List.getElem?_take, if_pos]
          · simp
          · have := (List.getElem?_eq_some_iff.1 hu).1; rw [hE.1] at this; exact this
        have hr := run_append_grow (P := P) w t ty e i z T.u hi hz ⟨g, 0, none⟩ n cap xs hE.1 holds a m c news hl hcell (by omega) (by omega) (growslice_fits (by omega) hbytes)
        have hgr := fresh cap xs.toArray (by omega) (by simp)
        exact ⟨_, _, _, hr, hgr.1, hgr.2⟩
end

/-! ### Of elements of one type -/
def fl {α : Type} [Flat α] (xs : List α) : List Value := (xs.map enc).flatten
def GrF {α : Type} [F : Flat α] (E : List (Nat × Obj)) (e : TypeId) (v : Value) (xs : List α) : Prop := Gr E e F.k v xs.length (fl xs)
section
variable {α : Type} [F : Flat α] {P : Program} {w0 : Base} {w ws : World} {Sn : List Snap} {O O1 O2 E : List (Nat × Obj)} {e : TypeId} {v : Value} {xs ys : List α}
theorem fl_length (xs : List α) : (fl xs).length = xs.length * F.k := by
  induction xs with
  | nil => simp [fl]
  | cons x xs ih =>
    simp only [fl, List.map_cons, List.flatten_cons, List.length_append, List.length_cons] at ih ⊢
    rw [ih, F.len, Nat.add_mul]; omega
theorem fl_append (xs ys : List α) : fl (xs ++ ys) = fl xs ++ fl ys := by simp [fl]
theorem fl_one (x : α) : fl [x] = enc x := by simp [fl]
theorem fl_mem (xs : List α) (u : Value) (h : u ∈ fl xs) : u.oneCell' = true := by
  simp only [fl, List.mem_flatten, List.mem_map] at h
  obtain ⟨l, ⟨x, _, rfl⟩, hu⟩ := h
  exact F.one x u hu
theorem fl_rows (xs : List α) : ∀ r, r ∈ xs.map enc → r.length = F.k := fun r hr => by obtain ⟨y, _, rfl⟩ := List.mem_map.1 hr; exact F.len y
theorem fl_get {i f : Nat} (hi : i < xs.length) (hf : f < F.k) : (fl xs)[i * F.k + f]? = (enc (xs[i]'hi))[f]? :=
  flat_get _ (fl_rows xs) i f _ (by simp [hi]) hf
theorem GrF.nil : GrF (α := α) [] e (.slice none 0 0) ([] : List α) := ⟨by simp [fl], .inl ⟨rfl, rfl, rfl⟩⟩
theorem GrF.empty {b : Nat} : GrF (α := α) [(b, .cells #[] e (0, 0))] e (.slice (some ⟨b, 0, none⟩) 0 0) ([] : List α) :=
  ⟨by simp [fl], .inr ⟨b, 0, #[], rfl, rfl, Nat.le_refl _, Nat.zero_le _, by simp, by simp [fl]⟩⟩
/-- A literal: a block of just these elements. -/
theorem GrF.lit {b : Nat} {cs : Array Value} {n : Nat} (hn : xs.length = n) (hc : cs.toList = fl xs) (hm : n ≤ 4611686018427387904) : GrF (α := α) [(b, .cells cs e (0, 0))] e (.slice (some ⟨b, 0, none⟩) n n) xs := by
  subst hn
  have hs : cs.size = xs.length * F.k := by rw [← fl_length, ← hc]; simp
  exact ⟨fl_length xs, .inr ⟨b, _, cs, rfl, rfl, Nat.le_refl _, by have : maxLen = 9223372036854775807 := rfl; omega, hs, by rw [hc, List.take_of_length_le (by rw [fl_length]; exact Nat.le_refl _)]⟩⟩
/-- Its shape. -/
theorem GrF.shape (h : GrF E e v xs) : ∃ a cap, v = .slice a xs.length cap := by
  rcases h.2 with ⟨_, rfl, h0⟩ | ⟨g, cap, _, _, rfl, _⟩
  · exact ⟨none, 0, by rw [h0]⟩
  · exact ⟨_, _, rfl⟩
theorem slF_block {g lo hi : Nat} {cur : Array Value} {t : TypeId} {fr : Nat × Nat} (hg : w.heap[g]? = some (.cells cur t fr)) (ht : cur.toList.take (xs.length * F.k) = fl xs) (h1 : lo ≤ g) (h2 : g < hi) : SlF lo hi w (some ⟨g, 0, none⟩) xs := by
  refine .inr ⟨g, 0, rfl, h1, h2, fun j u hu => ?_⟩
  rw [Nat.zero_add, cell_of_row w g j cur t fr hg]
  have hj : j < (fl xs).length := (List.getElem?_eq_some_iff.1 hu).1
  rw [fl_length] at hj
  have : (cur.toList.take (xs.length * F.k))[j]? = some u := by rw [ht]; exact hu
  rw [List.getElem?_take, if_pos hj] at this
  simpa using this
/-- It can be read, now. -/
theorem GrF.read (S : Now w0 Sn (O1 ++ (E ++ O2)) w) (h : GrF E e v xs) : ∃ a cap, v = .slice a xs.length cap ∧ SlF 0 w.heap.size w a xs := by
  rcases h.2 with ⟨_, rfl, h0⟩ | ⟨g, cap, cur, rfl, rfl, _, _, _, ht⟩
  · exact ⟨none, 0, by rw [h0], .inl (by simp [List.eq_nil_of_length_eq_zero h0])⟩
  · have hpos : (O1 ++ ([(g, Obj.cells cur e (0, 0))] ++ O2))[O1.length]? = some (g, .cells cur e (0, 0)) := by
      rw [List.getElem?_append_right (Nat.le_refl _)]; simp
    exact ⟨_, _, rfl, slF_block (S.own _ _ hpos) ht (Nat.zero_le _) (S.lt hpos)⟩
theorem GrF.slf {a : Option Addr} {n cap : Nat} (S : Now w0 Sn (O1 ++ (E ++ O2)) w) (h : GrF E e (.slice a n cap) xs) : SlF 0 w.heap.size w a xs := by
  obtain ⟨a', cap', h1, h2⟩ := h.read S
  simp only [Value.slice.injEq] at h1
  rw [h1.1]; exact h2
/-- It is written no more: from now on it is read out of a snapshot. -/
theorem GrF.freeze (S : Now w0 Sn (O1 ++ (E ++ O2)) w) (h : GrF E e v xs) : ∃ lo hi a cap, v = .slice a xs.length cap ∧ SlF lo hi w a xs ∧ Now w0 (⟨lo, hi, w⟩ :: Sn) (O1 ++ O2) w := by
  have S2 := S.cut
  rcases h.2 with ⟨_, rfl, h0⟩ | ⟨g, cap, cur, rfl, rfl, _, _, _, ht⟩
  · refine ⟨0, 0, none, 0, by rw [h0], .inl (by simp [List.eq_nil_of_length_eq_zero h0]), S2.base, ?_, S2.own, S2.fresh, ?_, S2.one⟩
    · intro s hs
      rcases List.mem_cons.1 hs with rfl | hs
      · exact ⟨Nat.zero_le _, fun _ _ h => absurd h (Nat.not_lt_zero _)⟩
      · exact S2.snap s hs
    · intro p hp s hs
      rcases List.mem_cons.1 hs with rfl | hs
      · exact .inr (Nat.zero_le _)
      · exact S2.apart p hp s hs
  · have hpos : (O1 ++ ([(g, Obj.cells cur e (0, 0))] ++ O2))[O1.length]? = some (g, .cells cur e (0, 0)) := by
      rw [List.getElem?_append_right (Nat.le_refl _)]; simp
    refine ⟨g, g + 1, _, _, rfl, slF_block (S.own _ _ hpos) ht (Nat.le_refl _) (Nat.lt_succ_self _), S2.base, ?_, S2.own, S2.fresh, ?_, S2.one⟩
    · intro s hs
      rcases List.mem_cons.1 hs with rfl | hs
      · exact ⟨S.lt hpos, fun _ _ _ => rfl⟩
      · exact S2.snap s hs
    · intro p hp s hs
      rcases List.mem_cons.1 hs with rfl | hs
      · have hne : p.1 ≠ g := by
          intro e1
          rcases List.mem_append.1 hp with h1 | h1
          · obtain ⟨j, hj⟩ := mem_get h1
            have hlt := (List.getElem?_eq_some_iff.1 hj).1
            have := S.one j O1.length p _ (by rw [List.getElem?_append_left hlt]; exact hj) hpos e1
            omega
          · obtain ⟨j, hj⟩ := mem_get h1
            have := S.one (O1.length + (1 + j)) O1.length p _ (by rw [List.getElem?_append_right (by omega), List.getElem?_append_right (by simp)]; simpa using hj) hpos e1
            omega
        simp only; omega
      · exact S2.apart p hp s hs
/-- What a call hands back in memory of its own. -/
def OwF (B : Nat) (w : World) (v : Value) (e : TypeId) (xs : List α) : Prop := w.ownsRow B e F.k v xs.length (fl xs)
theorem GrF.own {wi : World} (S : Now ⟨wi, []⟩ Sn (O1 ++ (E ++ O2)) w) (h : GrF E e v xs) : OwF wi.heap.size w v e xs := by
  refine ⟨h.1, ?_⟩
  rcases h.2 with ⟨_, rfl, h0⟩ | ⟨g, cap, cur, rfl, rfl, h1, h2, h3, ht⟩
  · exact .inl ⟨rfl, h0⟩
  · have hpos : (O1 ++ ([(g, Obj.cells cur e (0, 0))] ++ O2))[O1.length]? = some (g, .cells cur e (0, 0)) := by
      rw [List.getElem?_append_right (Nat.le_refl _)]; simp
    exact .inr ⟨g, cap, cur, rfl, (S.fresh _ (get_mem hpos)).resolve_right (by simp), S.own _ _ hpos, h1, h2, h3, ht⟩
theorem GrF.ownX {wi : World} {X : List Nat} (S : Now ⟨wi, X⟩ Sn (O1 ++ (E ++ O2)) w) (hX : ∀ x, x ∈ X → x ∈ (O1 ++ O2).map Prod.fst) (h : GrF E e v xs) : OwF wi.heap.size w v e xs := by
  refine ⟨h.1, ?_⟩
  rcases h.2 with ⟨_, rfl, h0⟩ | ⟨g, cap, cur, rfl, rfl, h1, h2, h3, ht⟩
  · exact .inl ⟨rfl, h0⟩
  · have hpos : (O1 ++ ([(g, Obj.cells cur e (0, 0))] ++ O2))[O1.length]? = some (g, .cells cur e (0, 0)) := by
      rw [List.getElem?_append_right (Nat.le_refl _)]; simp
    refine .inr ⟨g, cap, cur, rfl, (S.fresh _ (get_mem hpos)).resolve_right (fun hg => ?_), S.own _ _ hpos, h1, h2, h3, ht⟩
    obtain ⟨q, hq, e1⟩ := List.mem_map.1 (hX g hg)
    rcases List.mem_append.1 hq with hm | hm
    · obtain ⟨j, hj⟩ := mem_get hm
      have hlt := (List.getElem?_eq_some_iff.1 hj).1
      have := S.one j O1.length q _ (by rw [List.getElem?_append_left hlt]; exact hj) hpos e1
      omega
    · obtain ⟨j, hj⟩ := mem_get hm
      have := S.one (O1.length + (1 + j)) O1.length q _ (by rw [List.getElem?_append_right (by omega), List.getElem?_append_right (by simp)]; simpa using hj) hpos e1
      omega
theorem OwF.shape {B : Nat} (h : OwF B w v e xs) : ∃ a cap, v = .slice a xs.length cap ∧ SlF B w.heap.size w a xs := by
  rcases h.2 with ⟨rfl, h0⟩ | ⟨g, cap, cur, rfl, h1, h2, _, _, _, ht⟩
  · exact ⟨none, 0, by rw [h0], .inl (by simp [List.eq_nil_of_length_eq_zero h0])⟩
  · exact ⟨_, _, rfl, slF_block h2 ht h1 (Array.getElem?_eq_some_iff.1 h2).1⟩
/-- It keeps in a later world. -/
theorem OwF.keep {B B' : Nat} (h : OwF B ws v e xs) (S : Now w0 Sn O w) (hm : Snap.mk B ws.heap.size ws ∈ Sn) (hB : B' ≤ B) : OwF B' w v e xs := by
  refine ⟨h.1, ?_⟩
  rcases h.2 with h0 | ⟨g, cap, cur, rfl, h1, h2, h3⟩
  · exact .inl h0
  · exact .inr ⟨g, cap, cur, rfl, Nat.le_trans hB h1, by rw [(S.snap _ hm).2 g h1 (Array.getElem?_eq_some_iff.1 h2).1]; exact h2, h3⟩
theorem OwF.shapeN {B : Nat} (h : OwF B w v e xs) : ∃ a cap, v = .slice a xs.length cap ∧ SlF B w.heap.size w a xs ∧ (a = none → cap = 0) := by
  rcases h.2 with ⟨rfl, h0⟩ | ⟨g, cap, cur, rfl, h1, h2, h3, h4, h5, ht⟩
  · exact ⟨none, 0, by rw [h0], .inl (by simp [List.eq_nil_of_length_eq_zero h0]), fun _ => rfl⟩
  · exact ⟨_, _, rfl, slF_block h2 ht h1 (Array.getElem?_eq_some_iff.1 h2).1, by simp⟩
theorem OwF.nil {B : Nat} : OwF (α := α) B w (.slice none 0 0) e [] := ⟨by simp [fl], .inl ⟨rfl, rfl⟩⟩
/-- What a callee has handed back becomes a block of the caller's own. -/
theorem OwF.take {B : Nat} (S : Now w0 Sn (O1 ++ O2) w) (hB : Bd w0 B Sn (O1 ++ O2)) (h : OwF B w v e xs) : ∃ E, GrF E e v xs ∧ Now w0 Sn (O1 ++ (E ++ O2)) w := by
  rcases h.2 with ⟨rfl, h0⟩ | ⟨g, cap, cur, rfl, h1, h2, h3, h4, h5, ht⟩
  · exact ⟨[], ⟨h.1, .inl ⟨rfl, rfl, h0⟩⟩, S⟩
  · exact ⟨[(g, .cells cur e (0, 0))], ⟨h.1, .inr ⟨g, cap, cur, rfl, rfl, h3, h4, h5, ht⟩⟩, S.insB hB h2 h1⟩
end

section
variable {α : Type} [F : Flat α] {P : Program} {n : Nat} {Q : Post} {σ : Nat → Value} {w0 : Base} {w ws : World} {Sn : List Snap} {O O1 O2 E : List (Nat × Obj)} {ops : Array Oper} {rest : List Oper} {d : Nat} {ty : TypeId} {pos : String} {after : Array Edge}
/-- The literal of a slice. -/
theorem LW.lit (S : Now w0 Sn O w) {t e : TypeId} {q len : Nat} {parts : Array (Nat × Operand)} {z : Value} {cs : Array Value} [T : CSl P t e] [Z : CS P e q] [Y : CZ P e z] (hd : Nat.blt d n = true) (hlen : 0 < len * q ∧ len * q ≤ 16777216)
    (hf : Instr.fill (fun i => some (i * q, q)) ((Array.range (len * q)).map (z.cells[· % z.cells.size]!)) (List.map (fun x => (x.fst, ev σ x.snd)) parts.toList) = some cs)
    (k : ∀ b w', Now w0 Sn ((b, .cells cs e (0, 0)) :: O) w' → LW P n ops rest Q (upd σ d (.slice (some ⟨b, 0, none⟩) len len)) w') :
    LW P n ops (⟨some d, .buildSlice t len parts, ty, pos, after, none⟩ :: rest) Q σ w := by
  refine LW.op hd (w' := w.alloc (.cells cs e)) (v := .slice (some ⟨w.heap.size, 0, none⟩) len len) (Yl.mk fun d pos after g => ?_) (k _ _ (S.alloc _))
  have h0 : ¬ len * q = 0 := by omega
  have h1 : ¬ (2 ^ 24 < len * q) := by omega
  simp only [execOp, Instr.buildSlice, Sem.run_bind, T.run, Z.run, Result.andThen_ok]
  simp [h0, h1, Y.run, newRow]
  rw [hf]
  simp
theorem LW.lit0 (S : Now w0 Sn O w) {t e : TypeId} {q : Nat} [T : CSl P t e] [Z : CS P e q] (hd : Nat.blt d n = true)
    (k : ∀ b w', Now w0 Sn ((b, .cells #[] e (0, 0)) :: O) w' → LW P n ops rest Q (upd σ d (.slice (some ⟨b, 0, none⟩) 0 0)) w') :
    LW P n ops (⟨some d, .buildSlice t 0 #[], ty, pos, after, none⟩ :: rest) Q σ w := by
  refine LW.op hd (w' := w.alloc (.cells #[] e)) (v := .slice (some ⟨w.heap.size, 0, none⟩) 0 0) (Yl.mk fun d pos after g => ?_) (k _ _ (S.alloc _))
  have hz : (Array.map (fun _ : Nat => (default : Value)) (Array.range 0)) = #[] := by simp
  simp [execOp, Instr.buildSlice, T.run, Z.run, Instr.fill, newRow, hz]
theorem LW.appAny (S : Now w0 Sn (O1 ++ (E ++ O2)) w) {t e : TypeId} {q bytes : Nat} {x y : Operand} [T : CSl P t e] [Z : CE P e q bytes] {v : Value} {m0 : Nat} {xs : List Value} (hE : Gr E e q v m0 xs)
    {ad : Option Addr} {m c : Nat} {news : List Value} (hd : Nat.blt d n = true) (hx : ev σ x = v) (hy : ev σ y = .slice ad m c) (hl : news.length = m * q) (hnews : m = 0 ∨ ∃ a, ad = some a ∧ ∀ j u, news[j]? = some u → w.cell? (a.add j) = some u) (h1 : ∀ u ∈ news, u.oneCell' = true)
    (hbytes : (m0 + m) * bytes ≤ 140737488355328) (h63 : m0 + m ≤ 4611686018427387904)
    (k : ∀ v' w' E', Now w0 Sn (O1 ++ (E' ++ O2)) w' → Gr E' e q v' (m0 + m) (xs ++ news) → LW P n ops rest Q (upd σ d v') w') :
    LW P n ops (⟨some d, .call { callee := .builtin .append, args := #[x, y], argTypes := #[t, t] }, ty, pos, after, none⟩ :: rest) Q σ w := by
  obtain ⟨v', w', E', hr, S', hE'⟩ := append_my (P := P) (t := t) (ty := ty) S hE hl hnews h1 hbytes h63 (c := c)
  refine LW.op hd (Yl.mk fun d pos after g => ?_) (k v' w' E' S' hE')
  simp [execOp, resolve, invoke, builtin, hx, hy, hr]
/-- append(x, elem): the element lies in the block that was made last. -/
theorem LW.app1 (x1 : α) {b : Nat} {nc : Array Value} {e : TypeId} (S : Now w0 Sn ((b, .cells nc e (0, 0)) :: (O1 ++ (E ++ O2))) w) {t : TypeId} {bytes c : Nat} {x y : Operand} [T : CSl P t e] [Z : CE P e F.k bytes] {v : Value} {xs : List α} (hE : GrF E e v xs)
    (hd : Nat.blt d n = true) (hx : ev σ x = v) (hy : ev σ y = .slice (some ⟨b, 0, none⟩) 1 c) (hn : nc.toList = enc x1)
    (hbytes : (xs.length + 1) * bytes ≤ 140737488355328) (h63 : xs.length + 1 ≤ 4611686018427387904)
    (k : ∀ v' w' E', Now w0 Sn (O1 ++ (E' ++ O2)) w' → GrF E' e v' (xs ++ [x1]) → LW P n ops rest Q (upd σ d v') w') :
    LW P n ops (⟨some d, .call { callee := .builtin .append, args := #[x, y], argTypes := #[t, t] }, ty, pos, after, none⟩ :: rest) Q σ w := by
  refine LW.appAny (O1 := (b, .cells nc e (0, 0)) :: O1) (E := E) (O2 := O2) S hE hd hx hy (news := enc x1) (by rw [F.len, Nat.one_mul]) (.inr ⟨_, rfl, fun j u hu => ?_⟩) (F.one x1) hbytes h63 ?_
  · have hadd : (⟨b, 0, none⟩ : Addr).add j = ⟨b, j, none⟩ := by unfold Addr.add; split <;> simp_all
    rw [hadd, S.cell (i := 0) rfl, ← hu, ← hn]; simp
  · intro v' w' E' S' hE'
    refine k v' w' E' S'.drop ?_
    unfold GrF
    rw [fl_append, fl_one, List.length_append]
    exact hE'
/-- append(x, ys...). -/
theorem LW.appR {ys : List α} {lo hi : Nat} {e : TypeId} (S : Now w0 Sn (O1 ++ (E ++ O2)) w) {t : TypeId} {bytes c : Nat} {x y : Operand} {ad : Option Addr} [T : CSl P t e] [Z : CE P e F.k bytes] {v : Value} {xs : List α} (hE : GrF E e v xs)
    (hd : Nat.blt d n = true) (hx : ev σ x = v) (hy : ev σ y = .slice ad ys.length c) (hs : SlF lo hi w ad ys)
    (hbytes : (xs.length + ys.length) * bytes ≤ 140737488355328) (h63 : xs.length + ys.length ≤ 4611686018427387904)
    (k : ∀ v' w' E', Now w0 Sn (O1 ++ (E' ++ O2)) w' → GrF E' e v' (xs ++ ys) → LW P n ops rest Q (upd σ d v') w') :
    LW P n ops (⟨some d, .call { callee := .builtin .append, args := #[x, y], argTypes := #[t, t] }, ty, pos, after, none⟩ :: rest) Q σ w := by
  refine LW.appAny S hE hd hx hy (news := fl ys) (fl_length ys) ?_ (fl_mem ys) hbytes h63 ?_
  · rcases hs with h | ⟨b, off, rfl, _, _, h3⟩
    · left; simp at h; simp [h]
    · right
      refine ⟨_, rfl, fun j u hu => ?_⟩
      have hadd : (⟨b, off, none⟩ : Addr).add j = ⟨b, off + j, none⟩ := by unfold Addr.add; split <;> simp_all
      rw [hadd]; exact h3 j u hu
  · intro v' w' E' S' hE'
    refine k v' w' E' S' ?_
    unfold GrF
    rw [fl_append, List.length_append]
    exact hE'
end
end V
end Go.Proofs.Ytaiifcnjmbpbjaa
