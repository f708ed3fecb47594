/- What the rows need, part 8. No condition. -/
import Derived.Test.YtemmcidmcojjjaaGreatDoorRows
import Derived.ProofKit
import Derived.Deep.Slices
import Derived.LaidMore
import Derived.LaidSub
import Derived.LaidHandle
import Derived.Lay
import Derived.OpenShut
import Derived.Lib.LaidTab
import Derived.Test.YtemmcidmcojjjaaGreatDoorQSyG
set_option linter.unusedVariables false
set_option linter.unusedSimpArgs false
namespace Go.Proofs.YtemmcidmcojjjaaGreatDoor
namespace V
set_option maxHeartbeats 1000000
def preW (p : List UInt8) : List (List UInt8) → List (List UInt8)
  | [] => [p]
  | w :: ws => (p ++ w) :: ws
def spl : List UInt8 → List (List UInt8)
  | [] => [[]]
  | c :: cs => if c = 32 then [] :: spl cs else preW [c] (spl cs)
theorem preW_preW (p q : List UInt8) (l : List (List UInt8)) : preW p (preW q l) = preW (p ++ q) l := by
  cases l <;> simp [preW]
theorem preW_ne (p : List UInt8) (l : List (List UInt8)) : preW p l ≠ [] := by cases l <;> simp [preW]
theorem spl_ne (l : List UInt8) : spl l ≠ [] := by
  cases l with
  | nil => simp [spl]
  | cons c cs =>
    unfold spl
    split
    · simp
    · exact preW_ne _ _
theorem preW_nil {l : List (List UInt8)} (h : l ≠ []) : preW [] l = l := by
  cases l with
  | nil => exact absurd rfl h
  | cons w ws => rfl
theorem spl_len (l : List UInt8) : (spl l).length ≤ l.length + 1 := by
  induction l with
  | nil => simp [spl]
  | cons c cs ih =>
    unfold spl
    split
    · simp; omega
    · cases h : spl cs with
      | nil => exact absurd h (spl_ne cs)
      | cons w ws => rw [h] at ih; simp [preW] at ih ⊢; omega
theorem spl_mem {l w : List UInt8} (h : w ∈ spl l) : w.length ≤ l.length := by
  induction l generalizing w with
  | nil => simp [spl] at h; subst h; simp
  | cons c cs ih =>
    unfold spl at h
    split at h
    · rcases List.mem_cons.1 h with rfl | h
      · simp
      · have := ih h; simp; omega
    · cases hs : spl cs with
      | nil => exact absurd hs (spl_ne cs)
      | cons v vs =>
        rw [hs] at h
        rcases List.mem_cons.1 h with rfl | h
        · have := ih (w := v) (by rw [hs]; simp); simp; omega
        · have := ih (w := w) (by rw [hs]; simp [h]); simp; omega
theorem spl_ix (l : List UInt8) : (Lib.indexByte l 32 = -1 ∧ spl l = [l] ∧ l.count 32 = 0) ∨ (∃ m : Nat, Lib.indexByte l 32 = (m : Int) ∧ m < l.length ∧ spl l = l.take m :: spl (l.drop (m + 1)) ∧ l.count 32 = (l.drop (m + 1)).count 32 + 1) := by
  induction l with
  | nil => left; exact ⟨rfl, rfl, rfl⟩
  | cons c cs ih =>
    by_cases hc : c = 32
    · subst hc
      right
      refine ⟨0, ?_, by simp, ?_, ?_⟩
      · simp [Lib.indexByte]
      · simp [spl]
      · simp
    · have hb : (c == 32) = false := by simp [hc]
      rcases ih with ⟨h1, h2, h3⟩ | ⟨m, h1, h2, h3, h4⟩
      · left
        refine ⟨?_, ?_, ?_⟩
        · simp [Lib.indexByte, hb, h1]
        · simp [spl, hc, h2, preW]
        · rw [List.count_cons, h3, hb]; rfl
      · right
        refine ⟨m + 1, ?_, by simp only [List.length_cons]; omega, ?_, ?_⟩
        · have : ((m : Int) == -1) = false := by simp
          simp [Lib.indexByte, hb, h1, this]
        · simp [spl, hc, h3, preW]
        · rw [List.count_cons, h4, hb]; simp
theorem spl_one {l w : List UInt8} (h : spl l = [w]) : l = w := by
  rcases spl_ix l with ⟨_, h2, _⟩ | ⟨m, _, _, h3, _⟩
  · rw [h2] at h; simpa using h
  · rw [h3] at h
    have := (List.cons.inj h).2
    exact absurd this (spl_ne _)
def wordsB (s : ByteArray) : List ByteArray := (spl (bytesL s)).map b2s
theorem b2s_bytesL (s : ByteArray) : b2s (bytesL s) = s := by
  apply ByteArray.ext; unfold b2s bytesL; simp
theorem bytesL_b2s (l : List UInt8) : bytesL (b2s l) = l := by unfold b2s bytesL; simp
theorem ext_list (s : ByteArray) (a b : Nat) : s.extract a b = b2s (((bytesL s).take b).drop a) := by
  apply ByteArray.ext
  unfold b2s bytesL
  rw [ByteArray.data_extract]
  apply Array.ext'
  simp [List.extract, List.drop_take]
theorem subS_list {s : ByteArray} {a b : Nat} (h : a ≤ b ∧ b ≤ s.size) : subS s (a : Int) (b : Int) = some (b2s (((bytesL s).take b).drop a)) := by
  unfold subS; rw [if_pos (by omega), ← ext_list]; rfl
theorem byte_get {s : ByteArray} {i : Nat} (h : i < s.size) (hb : i < (bytesL s).length) : s[i]'h = (bytesL s)[i]'hb := by
  show s.data[i]'h = s.data.toList[i]'hb
  exact (Array.getElem_toList _).symm
section
variable {N : Nat} (hN : 100000000 ≤ N)
include hN
theorem splitS {s : ByteArray} (hs : s.size ≤ 5000000) : m_S_splitWords N s = some (wordsB s) := by
  refine ok.val ?_
  unfold m_S_splitWords
  have hL := bytesL_len s
  refine ok.call (P := fun r : Int × List ByteArray => ∃ f : Nat, r.1 = (f : Int) ∧ f ≤ s.size ∧ r.2.length ≤ s.size ∧ r.2 ++ [b2s ((bytesL s).drop f)] = wordsB s) (ok.loop (fun x : Int × Int × List ByteArray => ∃ f n : Nat, x.1 = (f : Int) ∧ x.2.1 = (n : Int) ∧ f ≤ n ∧ n ≤ s.size ∧ x.2.2.length ≤ n ∧ x.2.2 ++ (preW (((bytesL s).take n).drop f) (spl ((bytesL s).drop n))).map b2s = wordsB s) (fun x => (s.size - x.2.1).toNat) _ ?_ N _ ?_ ?_) ?_
  · rintro ⟨x1, x2, out⟩ ⟨f, n, rfl, rfl, hf, hn, hl, he⟩
    dsimp only at hl he ⊢
    unfold m_S_splitWords_b1
    refine ok.ite (fun hc => ?_) fun hc => ?_
    · have hn' : n < s.size := by omega
      rw [ixS_nat hn']
      refine ok.bs ?_
      have hg := byte_get hn' (by omega)
      have hd : (bytesL s).drop n = s[n]'hn' :: (bytesL s).drop (n + 1) := by rw [hg]; exact List.drop_eq_getElem_cons (by omega)
      have ht : (bytesL s).take (n + 1) = (bytesL s).take n ++ [s[n]'hn'] := by rw [hg]; exact take_succ1 (by omega)
      rw [hd] at he
      refine ok.ite (fun h32 => ?_) fun h32 => ?_
      · have e32 : s[n]'hn' = 32 := by apply UInt8.toNat_inj.1; have : (32 : UInt8).toNat = 32 := rfl; omega
        refine ok.eq (subS_list ⟨hf, hn⟩) (ok.app (by simp; omega) (ok.chk (by omega) (ok.chk (by omega) (ok.some ?_))))
        refine ⟨⟨n + 1, n + 1, rfl, rfl, Nat.le_refl _, hn', by show (out ++ [_]).length ≤ n + 1; rw [List.length_append]; show out.length + 1 ≤ n + 1; omega, ?_⟩, by show (s.size - ((n : Int) + 1) : Int).toNat < (s.size - (n : Int) : Int).toNat; omega⟩
        rw [← he]
        have e1 : ((bytesL s).take (n + 1)).drop (n + 1) = [] := List.drop_eq_nil_of_le (by simp; omega)
        rw [e1, preW_nil (spl_ne _)]
        conv => rhs; rw [spl, if_pos e32]
        simp [preW]
      · have e32 : ¬ s[n]'hn' = 32 := fun e => h32 (by rw [e])
        refine ok.chk (by omega) (ok.some ?_)
        refine ⟨⟨f, n + 1, rfl, rfl, by omega, hn', by show out.length ≤ n + 1; omega, ?_⟩, by show (s.size - ((n : Int) + 1) : Int).toNat < (s.size - (n : Int) : Int).toNat; omega⟩
        rw [← he]
        conv => rhs; rw [spl, if_neg e32]
        rw [preW_preW, ht, List.drop_append_of_le_length (by simp; omega)]
    · have e : n = s.size := by omega
      refine ok.some ⟨f, rfl, by omega, by show out.length ≤ s.size; omega, ?_⟩
      rw [← he]
      have e1 : (bytesL s).drop n = [] := List.drop_eq_nil_of_le (by omega)
      have e2 : (bytesL s).take n = bytesL s := List.take_of_length_le (by omega)
      rw [e1, e2]
      simp [spl, preW]
  · refine ⟨0, 0, rfl, rfl, Nat.le_refl _, Nat.zero_le _, Nat.zero_le _, ?_⟩
    simp only [List.take_zero, List.drop_zero, List.nil_append, List.drop_nil]
    rw [preW_nil (spl_ne _)]; rfl
  · simp; omega
  · rintro ⟨r1, r2⟩ ⟨f, rfl, hf, hl, he⟩
    dsimp only at hl he ⊢
    unfold m_S_splitWords_k1
    refine ok.eq (subS_list (a := f) (b := s.size) ⟨hf, Nat.le_refl _⟩) (ok.app (by simp; omega) (ok.some ?_))
    rw [← he, List.take_of_length_le (by omega)]
theorem splitI {s : ByteArray} (hs : s.size ≤ 5000000) : m_strings_Split N s (ByteArray.mk #[32]) = some (wordsB s) := by
  refine ok.val ?_
  unfold m_strings_Split m_strings_genSplit
  have hL := bytesL_len s
  have hcl : (bytesL s).count 32 ≤ s.size := by rw [← hL]; exact List.count_le_length
  generalize hcd : (bytesL s).count 32 = c at hcl
  refine ok.call (P := fun r => r = wordsB s) (ok.iff (by decide) (ok.bf (by rw [textEq]; decide) (ok.ift (by decide) ?_))) fun r hr => ok.some hr
  have e1 : m_strings_Count N s (ByteArray.mk #[32]) = some (c : Int) := by rw [← hcd]; rfl
  refine ok.eq e1 (ok.chk (by omega) (ok.chk (by omega) ?_))
  have e2 : min ((c : Int) + 1) ((s.size : Int) + 1) = ((c + 1 : Nat) : Int) := by omega
  rw [e2]
  have e3 : mkM 16 ByteArray.empty ((c + 1 : Nat) : Int) = some (List.replicate (c + 1) ByteArray.empty) := by unfold mkM; rw [if_pos (by omega)]; rfl
  refine ok.eq e3 (ok.chk (by omega) ?_)
  have e4 : ((c + 1 : Nat) : Int) - 1 = (c : Int) := by omega
  rw [e4]
  have set1 : ∀ {d : List ByteArray} {j k : Nat} {y : ByteArray}, d.length = j → (d ++ List.replicate (k + 1) ByteArray.empty).set j y = (d ++ [y]) ++ List.replicate k ByteArray.empty := by
    intro d j k y hd; subst hd; simp [List.replicate_succ]
  refine ok.call (P := fun r : ByteArray × Int × List ByteArray => ∃ (j : Nat) (d : List ByteArray), r.2.1 = (j : Int) ∧ j ≤ c ∧ d.length = j ∧ r.2.2 = d ++ List.replicate (c - j + 1) ByteArray.empty ∧ d ++ [r.1] = wordsB s) (ok.loop (fun x : ByteArray × Int × List ByteArray => ∃ (j : Nat) (d : List ByteArray), x.2.1 = (j : Int) ∧ j ≤ c ∧ d.length = j ∧ x.2.2 = d ++ List.replicate (c - j + 1) ByteArray.empty ∧ x.1.size ≤ s.size ∧ (bytesL x.1).count 32 = c - j ∧ d ++ (spl (bytesL x.1)).map b2s = wordsB s) (fun x => (c - x.2.1).toNat) _ ?_ N _ ?_ ?_) ?_
  · rintro ⟨u, i, v⟩ ⟨j, d, rfl, hj, hd, hv, hu, hc, he⟩
    dsimp only at hv hu hc he ⊢
    subst hv
    have hLu := bytesL_len u
    unfold m_strings_genSplit_b1
    refine ok.ite (fun hlt => ?_) fun hlt => ?_
    · have e5 : m_strings_Index N u (ByteArray.mk #[32]) = some (Lib.indexByte (bytesL u) 32) := rfl
      rcases spl_ix (bytesL u) with ⟨h1, h2, h3⟩ | ⟨m, h1, h2, h3, h4⟩
      · rw [h1] at e5
        refine ok.eq e5 (ok.ift (by decide) (ok.some ⟨j, d, rfl, hj, hd, rfl, ?_⟩))
        rw [← he, h2]; simp [b2s_bytesL]
      · rw [h1] at e5
        refine ok.eq e5 (ok.iff (by omega) (ok.chk (by omega) ?_))
        rw [Int.add_zero]
        obtain ⟨q, hq⟩ : ∃ q, c - j = q + 1 := ⟨c - j - 1, by omega⟩
        have e6 : (ByteArray.mk #[32]).size = 1 := rfl
        refine ok.eq (subS_list (a := 0) (b := m) ⟨Nat.zero_le _, by omega⟩) (ok.eq (ixI_nat (n := j) (by simp; omega)) (ok.chk (by omega) ?_))
        rw [e6]
        refine ok.eq (subS_list (a := m + 1) (b := u.size) ⟨by omega, Nat.le_refl _⟩) (ok.chk (by omega) (ok.some ?_))
        have e7 : (bytesL u).take u.size = bytesL u := List.take_of_length_le (by omega)
        refine ⟨⟨j + 1, d ++ [b2s (((bytesL u).take m).drop 0)], rfl, by omega, by simp; omega, ?_, ?_, ?_, ?_⟩, by simp; omega⟩
        · dsimp only
          have e8 : c - (j + 1) + 1 = q + 1 := by omega
          rw [hq, Int.toNat_natCast, set1 hd, e8]
        · rw [b2s_data, e7]; simp; omega
        · rw [bytesL_b2s, e7]; omega
        · rw [bytesL_b2s, e7, ← he, h3]; simp
    · have hz : (bytesL u).count 32 = 0 := by omega
      rcases spl_ix (bytesL u) with ⟨h1, h2, h3⟩ | ⟨m, h1, h2, h3, h4⟩
      · refine ok.some ⟨j, d, rfl, hj, hd, rfl, ?_⟩
        rw [← he, h2]; simp [b2s_bytesL]
      · omega
  · exact ⟨0, [], rfl, Nat.zero_le _, rfl, by simp, Nat.le_refl _, by rw [hcd]; rfl, rfl⟩
  · simp; omega
  · rintro ⟨u, i, v⟩ ⟨j, d, rfl, hj, hd, hv, he⟩
    dsimp only at hv he ⊢
    subst hv
    unfold m_strings_genSplit_k1
    refine ok.eq (ixI_nat (n := j) (by simp; omega)) (ok.chk (by omega) ?_)
    rw [Int.toNat_natCast, set1 hd]
    refine ok.eq (subM_eq (by rw [List.length_append, List.length_append, hd]; show (0 : Int) ≤ 0 ∧ 0 ≤ (j : Int) + 1 ∧ (j : Int) + 1 ≤ ((j + 1 + _ : Nat) : Int); omega)) (ok.some ?_)
    rw [← he]
    have e9 : ((j : Int) + 1).toNat - (0 : Int).toNat = (d ++ [u]).length := by rw [List.length_append, hd]; show _ = j + 1; omega
    rw [e9]
    show List.take _ (List.drop 0 _) = _
    rw [List.drop_zero, List.take_left]
end
end V
end Go.Proofs.YtemmcidmcojjjaaGreatDoor
namespace Go.Proofs.YtemmcidmcojjjaaGreatDoor
namespace V
set_option maxHeartbeats 1000000
def dgF (a : Nat) (c : UInt8) : Nat := 10 * a + (c.toNat - 48)
def valL (l : List UInt8) : Nat := l.foldl dgF 0
def isDig (c : UInt8) : Prop := 48 ≤ c.toNat ∧ c.toNat ≤ 57
instance (c : UInt8) : Decidable (isDig c) := by unfold isDig; infer_instance
theorem fold_lt : ∀ (l : List UInt8) (a : Nat), (∀ c ∈ l, isDig c) → l.foldl dgF a < (a + 1) * 10 ^ l.length
  | [], a, _ => by simp
  | c :: l, a, h => by
    have h1 := fold_lt l (dgF a c) fun x hx => h x (List.mem_cons_of_mem _ hx)
    have h2 := h c List.mem_cons_self
    have h3 : dgF a c + 1 ≤ (a + 1) * 10 := by unfold dgF; unfold isDig at h2; omega
    show l.foldl dgF (dgF a c) < _
    refine Nat.lt_of_lt_of_le h1 ?_
    rw [List.length_cons, Nat.pow_succ, Nat.mul_comm (10 ^ l.length) 10, ← Nat.mul_assoc]
    exact Nat.mul_le_mul_right _ h3
theorem fold_ge : ∀ (l : List UInt8) (a : Nat), a ≤ l.foldl dgF a
  | [], a => Nat.le_refl _
  | c :: l, a => by
    have := fold_ge l (dgF a c)
    show a ≤ l.foldl dgF (dgF a c)
    unfold dgF at this ⊢
    omega
theorem valL_lt {l : List UInt8} (h : ∀ c ∈ l, isDig c) : valL l < 10 ^ l.length := by have := fold_lt l 0 h; simpa [valL] using this
theorem valL_snoc (l : List UInt8) (c : UInt8) : valL (l ++ [c]) = 10 * valL l + (c.toNat - 48) := by unfold valL; rw [List.foldl_append]; rfl
theorem dg_back {c : UInt8} (h : isDig c) : UInt8.ofNat (48 + (c.toNat - 48)) = c := by
  unfold isDig at h
  apply UInt8.toNat_inj.1
  rw [UInt8.toNat_ofNat']
  have := c.toNat_lt
  omega
theorem dec_canon : ∀ (n : Nat) (l : List UInt8), l.length = n + 1 → (∀ c ∈ l, isDig c) → (l.head? = some 48 → l.length = 1) → Lib.decDigits (valL l) = l
  | n, l, hl, hd, hc => by
    have hne : l ≠ [] := fun e => by subst e; cases hl
    obtain ⟨q, c, rfl⟩ : ∃ q c, l = q ++ [c] := ⟨l.dropLast, l.getLast hne, (List.dropLast_concat_getLast hne).symm⟩
    have hdc := hd c (by simp)
    rw [valL_snoc]
    cases n with
    | zero =>
      have hq : q = [] := by rw [List.length_append] at hl; exact List.eq_nil_of_length_eq_zero (by simpa using hl)
      subst hq
      have e : 10 * valL [] + (c.toNat - 48) = c.toNat - 48 := by simp [valL]
      rw [e, Lib.decDigits_one (by unfold isDig at hdc; omega), dg_back hdc]; rfl
    | succ n =>
      have hq : q.length = n + 1 := by simpa using hl
      obtain ⟨b, t, rfl⟩ : ∃ b t, q = b :: t := by
        cases q with
        | nil => cases hq
        | cons b t => exact ⟨b, t, rfl⟩
      have hb : b ≠ 48 := fun e => by
        subst e
        have := hc rfl
        rw [List.length_append] at this
        simp at this
      have hdq : ∀ x ∈ b :: t, isDig x := fun x hx => hd x (by simp only [List.mem_append]; exact .inl hx)
      have ih := dec_canon n (b :: t) hq hdq (fun e => absurd (Option.some.inj e) hb)
      have hv : 1 ≤ valL (b :: t) := by
        have h1 := fold_ge t (dgF 0 b)
        have h2 := hdq b List.mem_cons_self
        have h3 : b.toNat ≠ 48 := fun e => hb (UInt8.toNat_inj.1 e)
        show 1 ≤ t.foldl dgF (dgF 0 b)
        unfold dgF at h1 ⊢
        unfold isDig at h2
        omega
      unfold isDig at hdc
      rw [Lib.decDigits, dif_neg (by omega)]
      have e1 : (10 * valL (b :: t) + (c.toNat - 48)) / 10 = valL (b :: t) := by omega
      have e2 : (10 * valL (b :: t) + (c.toNat - 48)) % 10 = c.toNat - 48 := by omega
      rw [e1, e2, ih, dg_back hdc]
theorem dec_iff {l : List UInt8} (h0 : 0 < l.length) (hd : ∀ c ∈ l, isDig c) : Lib.decDigits (valL l) = l ↔ (l.head? = some 48 → l.length = 1) := by
  constructor
  · intro h e
    cases l with
    | nil => cases e
    | cons b t =>
      obtain rfl : b = 48 := Option.some.inj e
      by_cases ht : t = []
      · subst ht; rfl
      · exfalso
        have h1 : valL (48 :: t) = valL t := rfl
        have h2 : valL t < 10 ^ t.length := valL_lt fun x hx => hd x (List.mem_cons_of_mem _ hx)
        obtain ⟨k, hk⟩ : ∃ k, t.length = k + 1 := ⟨t.length - 1, by have := List.length_pos_iff.2 ht; omega⟩
        rw [hk] at h2
        have h3 := nd_le k (valL t) h2
        have h4 := congrArg List.length h
        rw [h1, Lib.decDigits_length, List.length_cons] at h4
        omega
  · intro h
    obtain ⟨k, hk⟩ : ∃ k, l.length = k + 1 := ⟨l.length - 1, by omega⟩
    exact dec_canon k l hk hd h
def isNum (w : ByteArray) : Prop := 0 < w.size ∧ w.size ≤ 6 ∧ (∀ c ∈ bytesL w, isDig c) ∧ ((bytesL w).head? = some 48 → (bytesL w).length = 1)
noncomputable instance (w : ByteArray) : Decidable (isNum w) := Classical.propDecidable _
def numV (w : ByteArray) : Int := (valL (bytesL w) : Int)
noncomputable def pNum (w : ByteArray) : Int := if isNum w then numV w else -1
theorem numV_bd {w : ByteArray} (h : isNum w) : 0 ≤ numV w ∧ numV w ≤ 999999 := by
  have h1 := valL_lt h.2.2.1
  have h2 : 10 ^ (bytesL w).length ≤ 10 ^ 6 := Nat.pow_le_pow_right (by decide) (by rw [bytesL_len]; exact h.2.1)
  unfold numV; omega
theorem pNum_bd (w : ByteArray) : -1 ≤ pNum w ∧ pNum w ≤ 999999 := by
  unfold pNum
  split
  · rename_i h; have := numV_bd h; omega
  · omega
theorem bytesL_inj {u w : ByteArray} (h : bytesL u = bytesL w) : u = w := by rw [← b2s_bytesL u, h, b2s_bytesL]
theorem num_loop {β : Type} {body : Int × Int → Option ((Int × Int) ⊕ (Int ⊕ β))} {w : ByteArray} {N : Nat} {z : β} (hN : w.size < N) (h6 : w.size ≤ 6)
    (h : ∀ (n i : Nat) (hi : i < w.size), n < 1000000 → body ((n : Int), (i : Int)) = if isDig w[i] then some (.inl (((10 * n + (w[i].toNat - 48) : Nat) : Int), (i : Int) + 1)) else some (.inr (.inr z)))
    (he : ∀ n : Nat, body ((n : Int), (w.size : Int)) = some (.inr (.inl (n : Int)))) :
    loopM body N (0, 0) = some (if ∀ c ∈ bytesL w, isDig c then .inl (numV w) else .inr z) := by
  have hL := bytesL_len w
  refine ok.val (ok.loop (fun x : Int × Int => ∃ i : Nat, x.2 = (i : Int) ∧ i ≤ w.size ∧ x.1 = (valL ((bytesL w).take i) : Int) ∧ ∀ c ∈ (bytesL w).take i, isDig c) (fun x => (w.size - x.2).toNat) _ ?_ N _ ⟨0, rfl, Nat.zero_le _, rfl, fun c hc => by simp at hc⟩ (by simp; omega))
  rintro ⟨x1, x2⟩ ⟨i, hx2, hi, hx1, hd⟩
  dsimp only at hx1 hx2
  subst hx1; subst hx2
  rcases Nat.lt_or_ge i w.size with hlt | hge
  · have hb : valL ((bytesL w).take i) < 1000000 := by
      have h1 := valL_lt hd
      have h2 : 10 ^ ((bytesL w).take i).length ≤ 10 ^ 6 := Nat.pow_le_pow_right (by decide) (by rw [List.length_take]; omega)
      omega
    rw [h _ i hlt hb]
    have hg := byte_get hlt (by omega)
    by_cases hc : isDig w[i]
    · rw [if_pos hc]
      have ht : (bytesL w).take (i + 1) = (bytesL w).take i ++ [w[i]'hlt] := by rw [hg]; exact take_succ1 (by omega)
      refine ok.some ⟨⟨i + 1, rfl, hlt, ?_, ?_⟩, by show ((w.size : Int) - ((i : Int) + 1)).toNat < ((w.size : Int) - (i : Int)).toNat; omega⟩
      · show _ = ((valL ((bytesL w).take (i + 1)) : Nat) : Int)
        rw [ht, valL_snoc]
      · intro c hcm
        rw [ht] at hcm
        rcases List.mem_append.1 hcm with h1 | h1
        · exact hd c h1
        · rw [List.mem_singleton.1 h1]; exact hc
    · rw [if_neg hc]
      refine ok.some ?_
      show _ = ite _ _ _
      rw [if_neg]
      intro hall
      exact hc (by rw [hg]; exact hall _ (List.getElem_mem _))
  · obtain rfl : i = w.size := by omega
    rw [he]
    refine ok.some ?_
    have e : (bytesL w).take w.size = bytesL w := List.take_of_length_le (by omega)
    rw [e] at hd ⊢
    show _ = ite _ _ _
    rw [if_pos hd]; rfl
section
variable {N : Nat} (hN : 100000000 ≤ N)
include hN
theorem parseS {w : ByteArray} (hw : w.size ≤ 5000000) : m_S_parseInt N w = some (pNum w) := by
  refine ok.val ?_
  unfold m_S_parseInt
  have hL := bytesL_len w
  refine ok.ite (fun h0 => ok.some ?_) fun h0 => ok.ite (fun h6 => ok.some ?_) fun h6 => ?_
  · unfold pNum; rw [if_neg (fun h => by have := h.1; omega)]
  · unfold pNum; rw [if_neg (fun h => by have := h.2.1; omega)]
  · refine ok.eq (num_loop (w := w) (z := (-1 : Int)) (by omega) (by omega) (fun n i hi hn => ?_) fun n => ?_) ?_
    · show m_S_parseInt_b1 N w (n : Int) (i : Int) = _
      have := w[i].toNat_lt
      by_cases hc : isDig w[i]
      · rw [if_pos hc]
        unfold isDig at hc
        refine ok.val ?_
        unfold m_S_parseInt_b1
        refine ok.ift (by omega) ?_
        rw [ixS_nat hi]
        refine ok.bs (ok.eq (inRange_eq N _ _ _) ?_)
        refine ok.bt (decide_eq_true (by omega)) (ok.chk (by omega) (ok.bs (ok.chk (by omega) (ok.chk (by omega) (ok.chk (by omega) (ok.some ?_))))))
        congr 2; omega
      · rw [if_neg hc]
        unfold isDig at hc
        refine ok.val ?_
        unfold m_S_parseInt_b1
        refine ok.ift (by omega) ?_
        rw [ixS_nat hi]
        refine ok.bs (ok.eq (inRange_eq N _ _ _) ?_)
        exact ok.bf (decide_eq_false (by omega)) (ok.some rfl)
    · show m_S_parseInt_b1 N w (n : Int) (w.size : Int) = _
      unfold m_S_parseInt_b1
      rw [decide_eq_false (by omega)]; rfl
    · by_cases hd : ∀ c ∈ bytesL w, isDig c
      · rw [if_pos hd]
        show ok (m_S_parseInt_k1 N w (numV w)) _
        unfold m_S_parseInt_k1
        have hb : numV w < 1000000 := by
          have h1 := valL_lt hd
          have h2 : 10 ^ (bytesL w).length ≤ 10 ^ 6 := Nat.pow_le_pow_right (by decide) (by omega)
          unfold numV; omega
        have hb0 : 0 ≤ numV w := Int.natCast_nonneg _
        refine ok.eq (decimal_ok (by omega) (by omega)) ?_
        have e1 : itoaB (numV w) = b2s (Lib.decDigits (valL (bytesL w))) := by unfold itoaB numV; rw [Lib.itoa_nonneg]; rfl
        rw [textEq, e1]
        have hi := dec_iff (l := bytesL w) (by omega) hd
        unfold pNum
        by_cases hc : (bytesL w).head? = some 48 → (bytesL w).length = 1
        · rw [if_pos ⟨by omega, by omega, hd, hc⟩]
          exact ok.ift (by rw [hi.2 hc, b2s_bytesL]) (ok.some rfl)
        · rw [if_neg (fun h => hc h.2.2.2)]
          exact ok.iff (fun e => hc (hi.1 (by have := congrArg bytesL e; rwa [bytesL_b2s] at this))) (ok.some rfl)
      · rw [if_neg hd]
        refine ok.some ?_
        unfold pNum; rw [if_neg (fun h => hd h.2.2.1)]
omit hN in
theorem numI_b {w : ByteArray} {n i : Nat} (hi : i < w.size) (hn : n < 1000000) (h6 : w.size ≤ 6) : m_I_parseNumber_b1 N w (n : Int) (i : Int) = if isDig w[i] then some (.inl (((10 * n + (w[i].toNat - 48) : Nat) : Int), (i : Int) + 1)) else some (.inr (.inr ((0 : Int), false))) := by
  have hlt := w[i].toNat_lt
  have e1 : ((48 : UInt8).toNat : Int) = 48 := rfl
  have e2 : ((57 : UInt8).toNat : Int) = 57 := rfl
  by_cases hc : isDig w[i]
  · rw [if_pos hc]
    unfold isDig at hc
    refine ok.val ?_
    unfold m_I_parseNumber_b1
    refine ok.ift (by omega) ?_
    rw [ixS_nat hi]
    refine ok.bs ?_
    rw [e1, e2]
    refine ok.iff (by omega) (ok.bs (ok.iff (by omega) ?_))
    refine ok.chk (by omega) (ok.bs ?_)
    rw [i2b_toNat]
    refine ok.chk (by omega) (ok.chk (by omega) (ok.some ?_))
    congr 2
    omega
  · rw [if_neg hc]
    unfold isDig at hc
    refine ok.val ?_
    unfold m_I_parseNumber_b1
    refine ok.ift (by omega) ?_
    rw [ixS_nat hi]
    refine ok.bs ?_
    rw [e1, e2]
    exact ok.ite (fun h1 => ok.some rfl) fun h1 => ok.bs (ok.ift (by omega) (ok.some rfl))
theorem parseI {w : ByteArray} (hw : w.size ≤ 5000000) : m_I_parseNumber N w = some (if isNum w then (numV w, true) else (0, false)) := by
  refine ok.val ?_
  unfold m_I_parseNumber
  have hL := bytesL_len w
  have e48 : ((48 : UInt8).toNat : Int) = 48 := rfl
  rw [textEq, textEq, e48]
  have fin : (w.size ≤ 6 ∧ 0 < w.size ∧ ((bytesL w).head? = some 48 → (bytesL w).length = 1)) → ok ((loopM (β := Int ⊕ (Int × Bool)) (fun s : Int × Int => m_I_parseNumber_b1 N w s.1 s.2) N ((0 : Int), (0 : Int))).bind fun o => match o with | .inl e => m_I_parseNumber_k1 N e | .inr v => some v) fun r => r = if isNum w then (numV w, true) else (0, false) := by
    rintro ⟨h6, h0, hc⟩
    refine ok.eq (num_loop (w := w) (z := ((0 : Int), false)) (by omega) h6 (fun n i hi hn => numI_b hi hn h6) fun n => ?_) ?_
    · show m_I_parseNumber_b1 N w (n : Int) (w.size : Int) = _
      unfold m_I_parseNumber_b1
      rw [decide_eq_false (by omega)]; rfl
    · by_cases hd : ∀ c ∈ bytesL w, isDig c
      · rw [if_pos hd, if_pos ⟨h0, h6, hd, hc⟩]; exact ok.some rfl
      · rw [if_neg hd, if_neg (fun h => hd h.2.2.1)]; exact ok.some rfl
  refine ok.ite (fun h0 => ok.some ?_) fun h0 => ok.ite (fun h6 => ok.some ?_) fun h6 => ?_
  · rw [if_neg (fun h => by have h1 := h.1; rw [h0] at h1; exact absurd h1 (by decide))]
  · rw [if_neg (fun h => by have := h.2.1; omega)]
  · have hp : 0 < w.size := by
      rcases Nat.eq_zero_or_pos w.size with e | e
      · exact absurd (bytesL_inj (List.eq_nil_of_length_eq_zero (by rw [hL, e]) : bytesL w = bytesL ByteArray.empty)) h0
      · exact e
    have e0 : ixS w (0 : Int) = some (w[0]'hp) := ixS_nat (i := 0) hp
    refine ok.eq e0 ?_
    have hh : (bytesL w).head? = some (w[0]'hp) := by rw [byte_get hp (by omega), List.head?_eq_getElem?]; exact List.getElem?_eq_getElem _
    refine ok.ite (fun h48 => ok.ite (fun h1 => ?_) fun h1 => ok.some ?_) fun h48 => ?_
    · exact fin ⟨by omega, hp, fun _ => by rw [h1]; rfl⟩
    · rw [if_neg]
      intro hn
      have e1 : w[0]'hp = 48 := UInt8.toNat_inj.1 (by show (w[0]'hp).toNat = 48; omega)
      have e2 := hn.2.2.2 (by rw [hh, e1])
      apply h1
      refine bytesL_inj ?_
      cases hb : bytesL w with
      | nil => rw [hb] at e2; cases e2
      | cons b t =>
        rw [hb] at e2 hh
        have : t = [] := List.eq_nil_of_length_eq_zero (by simpa using e2)
        subst this
        rw [e1] at hh
        obtain rfl : b = 48 := Option.some.inj hh
        rfl
    · exact fin ⟨by omega, hp, fun e => absurd (by rw [hh] at e; rw [Option.some.inj e]; rfl) h48⟩
end
def tlB (w : ByteArray) : ByteArray := b2s ((bytesL w).drop 1)
noncomputable def valW (w : ByteArray) : I_Value := if w = ⟨#[45]⟩ then ⟨0, 0, ByteArray.empty⟩ else if isNum w then ⟨1, numV w, ByteArray.empty⟩ else if (bytesL w).head? = some 45 ∧ isNum (tlB w) ∧ numV (tlB w) ≠ 0 then ⟨1, -numV (tlB w), ByteArray.empty⟩ else ⟨2, 0, w⟩
theorem num_head {w : ByteArray} (h : isNum w) : (bytesL w).head? ≠ some 45 := fun e => by
  have := h.2.2.1 45 (List.mem_of_mem_head? e)
  unfold isDig at this
  have e45 : (45 : UInt8).toNat = 45 := rfl
  omega
theorem tlB_size (w : ByteArray) : (tlB w).size ≤ w.size := by unfold tlB; rw [b2s_data, List.length_drop, bytesL_len]; omega
theorem valW_text (w : ByteArray) : (valW w).text.size ≤ w.size := by
  unfold valW
  have h0 : ByteArray.empty.size = 0 := rfl
  split
  · show ByteArray.empty.size ≤ _; omega
  · split
    · show ByteArray.empty.size ≤ _; omega
    · split
      · show ByteArray.empty.size ≤ _; omega
      · exact Nat.le_refl _
section
variable {N : Nat} (hN : 100000000 ≤ N)
include hN
omit hN in
theorem cutI {w : ByteArray} (hw : w.size ≤ 5000000) : m_strings_CutPrefix N w (ByteArray.mk #[45]) = some (if (bytesL w).head? = some 45 then (tlB w, true) else (w, false)) := by
  refine ok.val ?_
  unfold m_strings_CutPrefix m_internal_stringslite_CutPrefix
  have hL := bytesL_len w
  have e1 : (ByteArray.mk #[45]).size = 1 := rfl
  have hp : m_internal_stringslite_HasPrefix N w (ByteArray.mk #[45]) = some (decide ((bytesL w).head? = some 45)) := by
    refine ok.val ?_
    unfold m_internal_stringslite_HasPrefix
    rw [e1]
    refine ok.ite (fun h1 => ?_) fun h1 => ok.some ?_
    · refine ok.eq (subS_list (a := 0) (b := 1) (by omega)) (ok.some ?_)
      rw [textEq]
      congr 1
      apply propext
      cases hb : bytesL w with
      | nil => rw [hb] at hL; simp at hL; omega
      | cons b t =>
        constructor
        · intro e
          have := congrArg bytesL e
          rw [bytesL_b2s] at this
          have : [b] = [45] := this
          simp at this ⊢; exact this
        · intro e
          obtain rfl : b = 45 := Option.some.inj e
          rfl
    · have : bytesL w = [] := List.eq_nil_of_length_eq_zero (by omega)
      rw [this]; rfl
  rw [hp, e1]
  refine ok.call (P := fun r => r = if (bytesL w).head? = some 45 then (tlB w, true) else (w, false)) ?_ fun r hr => ok.some hr
  refine ok.bs (ok.ite (fun h => ?_) fun h => ?_)
  · have h1 : 1 ≤ w.size := by
      rcases Nat.eq_zero_or_pos w.size with e | e
      · rw [List.eq_nil_of_length_eq_zero (by omega : (bytesL w).length = 0)] at h; cases h
      · exact e
    refine ok.eq (subS_list (a := 1) (b := w.size) ⟨h1, Nat.le_refl _⟩) (ok.some ?_)
    rw [if_pos h, List.take_of_length_le (by omega)]; rfl
  · exact ok.some (by rw [if_neg h])
theorem valI {w : ByteArray} (hw : w.size ≤ 5000000) : m_I_parseValue N w = some (valW w) := by
  refine ok.val ?_
  unfold m_I_parseValue valW
  rw [textEq]
  refine ok.ite (fun h0 => by rw [if_pos h0]; exact ok.some rfl) fun h0 => ?_
  rw [if_neg h0]
  refine ok.eq (cutI hw) ?_
  by_cases hh : (bytesL w).head? = some 45
  · rw [if_pos hh]
    have hn : ¬ isNum w := fun h => num_head h hh
    rw [if_neg hn]
    refine ok.eq (parseI hN (show (tlB w).size ≤ 5000000 by have := tlB_size w; omega)) ?_
    by_cases hn2 : isNum (tlB w)
    · rw [if_pos hn2]
      refine ok.bt rfl (ok.bt rfl (ok.ite (fun hz => ok.some ?_) fun hz => ?_))
      · rw [if_neg (fun h => h.2.2 hz)]
      · have := numV_bd hn2
        refine ok.chk (by show _ ≤ -numV (tlB w) ∧ -numV (tlB w) ≤ _; omega) (ok.some ?_)
        rw [if_pos ⟨hh, hn2, hz⟩]
    · rw [if_neg hn2]
      exact ok.bf rfl (ok.some (by rw [if_neg (fun h => hn2 h.2.1)]))
  · rw [if_neg hh]
    refine ok.eq (parseI hN hw) ?_
    by_cases hn : isNum w
    · rw [if_pos hn]
      exact ok.bt rfl (ok.bf rfl (ok.some (by rw [if_pos hn])))
    · rw [if_neg hn]
      exact ok.bf rfl (ok.some (by rw [if_neg hn, if_neg (fun h => hh h.1)]))
theorem valS {w : ByteArray} (hw : w.size ≤ 5000000) : m_S_valueOf N w = some (valW w) := by
  refine ok.val ?_
  unfold m_S_valueOf valW
  have hL := bytesL_len w
  rw [textEq, textEq]
  refine ok.ite (fun h0 => by rw [if_pos h0]; exact ok.some rfl) fun h0 => ?_
  rw [if_neg h0]
  refine ok.eq (parseS hN hw) ?_
  by_cases hn : isNum w
  · have e : pNum w = numV w := if_pos hn
    have := numV_bd hn
    refine ok.ift (by omega) (ok.eq (parseS hN hw) (ok.some ?_))
    rw [if_pos hn, e]
  · have e : pNum w = -1 := if_neg hn
    rw [if_neg hn]
    refine ok.iff (by omega) (ok.ite (fun h1 => ok.some ?_) fun h1 => ?_)
    · rw [if_neg]
      rw [h1]
      rintro ⟨h, _⟩
      cases h
    · have hp : 0 < w.size := by
        rcases Nat.eq_zero_or_pos w.size with e | e
        · exact absurd (bytesL_inj (List.eq_nil_of_length_eq_zero (by rw [hL, e]) : bytesL w = bytesL ByteArray.empty)) h1
        · exact e
      have e0 : ixS w (0 : Int) = some (w[0]'hp) := ixS_nat (i := 0) hp
      refine ok.eq e0 ?_
      have hh : (bytesL w).head? = some (w[0]'hp) := by rw [byte_get hp (by omega), List.head?_eq_getElem?]; exact List.getElem?_eq_getElem _
      have e45 : ((45 : UInt8).toNat : Int) = 45 := rfl
      have sub1 : subS w (1 : Int) (w.size : Int) = some (tlB w) := by
        have := subS_list (s := w) (a := 1) (b := w.size) ⟨hp, Nat.le_refl _⟩
        rw [List.take_of_length_le (by omega)] at this
        exact this
      refine ok.ite (fun h45 => ?_) fun h45 => ok.some ?_
      · have e1 : w[0]'hp = 45 := UInt8.toNat_inj.1 (by show (w[0]'hp).toNat = 45; omega)
        have hs := tlB_size w
        refine ok.eq sub1 (ok.eq (parseS hN (by omega)) (ok.ite (fun hz => ?_) fun hz => ok.some ?_))
        · refine ok.eq sub1 (ok.eq (parseS hN (by omega)) ?_)
          have hn2 : isNum (tlB w) := Classical.byContradiction fun h => by unfold pNum at hz; rw [if_neg h] at hz; omega
          have e2 : pNum (tlB w) = numV (tlB w) := if_pos hn2
          have := pNum_bd (tlB w)
          refine ok.chk (by omega) (ok.some ?_)
          rw [if_pos ⟨by rw [hh, e1], hn2, by omega⟩, e2]
        · rw [if_neg]
          rintro ⟨_, hn2, hnz⟩
          have e2 : pNum (tlB w) = numV (tlB w) := if_pos hn2
          have := numV_bd hn2
          omega
      · rw [if_neg]
        rintro ⟨he, _⟩
        rw [hh] at he
        exact h45 (by rw [Option.some.inj he])
end
noncomputable def kW (z : Int) (w : ByteArray) : Int := if w = ⟨#[110, 117, 109]⟩ then 1 else if w = ⟨#[116, 101, 120, 116]⟩ then 2 else z
theorem kindI (N : Nat) (w : ByteArray) : m_I_parseKind N w = some (kW 0 w) := by
  unfold m_I_parseKind kW
  rw [textEq, textEq]
  by_cases h1 : w = ⟨#[110, 117, 109]⟩
  · rw [if_pos h1, decide_eq_true h1]; rfl
  · rw [if_neg h1, decide_eq_false h1, cond_false]
    by_cases h2 : w = ⟨#[116, 101, 120, 116]⟩
    · rw [if_pos h2, decide_eq_true h2]; rfl
    · rw [if_neg h2, decide_eq_false h2]; rfl
theorem kindS (N : Nat) (w : ByteArray) : m_S_kindOf N w = some (kW (-1) w) := by
  unfold m_S_kindOf kW
  rw [textEq, textEq]
  by_cases h1 : w = ⟨#[110, 117, 109]⟩
  · rw [if_pos h1, decide_eq_true h1]; rfl
  · rw [if_neg h1, decide_eq_false h1, cond_false]
    by_cases h2 : w = ⟨#[116, 101, 120, 116]⟩
    · rw [if_pos h2, decide_eq_true h2]; rfl
    · rw [if_neg h2, decide_eq_false h2]; rfl
theorem kW_eq {z z' : Int} {w : ByteArray} (h : kW z w = 1 ∨ kW z w = 2) (hz : z ≠ 1 ∧ z ≠ 2) : kW z' w = kW z w := by
  unfold kW at h ⊢
  split
  · rfl
  · split
    · rfl
    · rename_i h1 h2; rw [if_neg h1, if_neg h2] at h; omega
end V
end Go.Proofs.YtemmcidmcojjjaaGreatDoor
namespace Go.Proofs.YtemmcidmcojjjaaGreatDoor
namespace V
set_option maxHeartbeats 1000000
theorem mapL_loop {α β : Type} {body : Int × List β → Option ((Int × List β) ⊕ List β)} {xs : List α} {f : α → β} {N : Nat} (hN : xs.length < N)
    (h : ∀ i (hi : i < xs.length) (v : List β), v.length = i → body ((i : Int), v) = some (.inl ((i : Int) + 1, v ++ [f xs[i]]))) (he : ∀ v, body ((xs.length : Int), v) = some (.inr v)) : loopM body N (0, []) = some (xs.map f) := by
  refine ok.val (ok.loop (fun x : Int × List β => ∃ i : Nat, x.1 = (i : Int) ∧ i ≤ xs.length ∧ x.2 = (xs.take i).map f) (fun x => (xs.length - x.1).toNat) _ ?_ N _ ⟨0, rfl, Nat.zero_le _, by simp⟩ (by simp; omega))
  rintro ⟨x1, x2⟩ ⟨i, h1, hi, h2⟩
  dsimp only at h1 h2
  subst h1; subst h2
  rcases Nat.lt_or_ge i xs.length with hlt | hge
  · rw [h i hlt _ (by rw [List.length_map, List.length_take]; omega)]
    refine ok.some ⟨⟨i + 1, rfl, hlt, ?_⟩, by show ((xs.length : Int) - ((i : Int) + 1)).toNat < ((xs.length : Int) - (i : Int)).toNat; omega⟩
    rw [take_succ1 hlt, List.map_append]; rfl
  · obtain rfl : i = xs.length := by omega
    rw [he]
    exact ok.some (by rw [List.take_length])
theorem join_snoc (xs : List (List UInt8)) (x sep : List UInt8) : Lib.join (xs ++ [x]) sep = if xs = [] then x else Lib.join xs sep ++ sep ++ x := by
  cases xs with
  | nil => rw [if_pos rfl]; exact Lib.join_one x sep
  | cons y ys =>
    rw [if_neg (by simp), List.cons_append, Lib.join_cons, Lib.join_cons]
    simp [Lib.joinTail]
theorem bytesL_app (a b : ByteArray) : bytesL (a ++ b) = bytesL a ++ bytesL b := by unfold bytesL; rw [ByteArray.data_append]; simp
theorem joinB_eq (xs : List ByteArray) (sep : ByteArray) : bytesL (joinB xs sep) = Lib.join (xs.map bytesL) (bytesL sep) := by
  have : joinB xs sep = b2s (Lib.join (xs.map bytesL) (bytesL sep)) := rfl
  rw [this, bytesL_b2s]
theorem joinB_snoc (xs : List ByteArray) (x sep : ByteArray) : joinB (xs ++ [x]) sep = if xs = [] then x else joinB xs sep ++ sep ++ x := by
  apply bytesL_inj
  rw [joinB_eq, List.map_append]
  show Lib.join (_ ++ [bytesL x]) _ = _
  rw [join_snoc]
  by_cases h : xs = []
  · subst h; rfl
  · rw [if_neg h, if_neg (by simpa using h), bytesL_app, bytesL_app, joinB_eq]
theorem joinB_size {xs : List ByteArray} {sep : ByteArray} {m : Nat} (h : ∀ x ∈ xs, x.size + sep.size ≤ m) : ∀ i, i ≤ xs.length → (joinB (xs.take i) sep).size ≤ i * m := by
  intro i
  induction i with
  | zero => intro _; simp [joinB, Lib.join, List.intercalate]; rfl
  | succ i ih =>
    intro hi
    have hx := h xs[i] (List.getElem_mem _)
    have := ih (by omega)
    rw [take_succ1 hi, joinB_snoc, Nat.succ_mul]
    split
    · omega
    · rw [ByteArray.size_append, ByteArray.size_append]; omega
theorem empty_app (a : ByteArray) : ByteArray.empty ++ a = a := by
  apply bytesL_inj; rw [bytesL_app]; rfl
theorem app_assoc3 (a b c : ByteArray) : a ++ b ++ c = a ++ (b ++ c) := by
  apply bytesL_inj; simp only [bytesL_app, List.append_assoc]
theorem app_empty (a : ByteArray) : a ++ ByteArray.empty = a := by
  apply bytesL_inj; rw [bytesL_app]; exact List.append_nil _
theorem cat_loop {body : ByteArray × Int → Option ((ByteArray × Int) ⊕ ByteArray)} {xs : List ByteArray} {sep o : ByteArray} {N m B : Nat} (hN : xs.length < N) (hm : ∀ x ∈ xs, x.size + sep.size ≤ m) (hB : o.size + xs.length * m ≤ B)
    (h : ∀ i (hi : i < xs.length) (u : ByteArray), u.size + m ≤ B → body (u, (i : Int)) = some (.inl ((if i = 0 then u else u ++ sep) ++ xs[i], (i : Int) + 1))) (he : ∀ u, body (u, (xs.length : Int)) = some (.inr u)) :
    loopM body N (o, 0) = some (o ++ joinB xs sep) := by
  refine ok.val (ok.loop (fun x : ByteArray × Int => ∃ i : Nat, x.2 = (i : Int) ∧ i ≤ xs.length ∧ x.1 = o ++ joinB (xs.take i) sep) (fun x => (xs.length - x.2).toNat) _ ?_ N _ ⟨0, rfl, Nat.zero_le _, ?_⟩ (by simp; omega))
  · rintro ⟨x1, x2⟩ ⟨i, h1, hi, h2⟩
    dsimp only at h1 h2
    subst h1; subst h2
    rcases Nat.lt_or_ge i xs.length with hlt | hge
    · have hs := joinB_size hm i hi
      have hmul : i * m + m ≤ xs.length * m := by rw [← Nat.succ_mul]; exact Nat.mul_le_mul_right _ hlt
      rw [h i hlt _ (by rw [ByteArray.size_append]; omega)]
      refine ok.some ⟨⟨i + 1, rfl, hlt, ?_⟩, by show ((xs.length : Int) - ((i : Int) + 1)).toNat < ((xs.length : Int) - (i : Int)).toNat; omega⟩
      dsimp only
      rw [take_succ1 hlt, joinB_snoc]
      by_cases h0 : i = 0
      · subst h0
        rw [if_pos rfl, if_pos (List.take_zero ..)]
        have : joinB (xs.take 0) sep = ByteArray.empty := rfl
        rw [this, app_empty]
      · rw [if_neg h0, if_neg (fun e => h0 (by have := congrArg List.length e; rw [List.length_take, List.length_nil] at this; omega))]
        simp only [app_assoc3]
    · obtain rfl : i = xs.length := by omega
      rw [he]
      exact ok.some (by rw [List.take_length])
  · have : joinB (xs.take 0) sep = ByteArray.empty := rfl
    rw [this, app_empty]
def prW (v : I_Value) : ByteArray := if v.kind = 1 then itoaB v.num else if v.kind = 2 then v.text else ⟨#[45]⟩
theorem prW_size {v : I_Value} (h : vV v) : (prW v).size ≤ 12 := by
  unfold prW
  rcases h with ⟨h1, _, _⟩ | ⟨h1, h2, h3, _⟩ | ⟨h1, _, h3⟩
  · rw [if_neg (by omega), if_neg (by omega)]; show 1 ≤ 12; omega
  · rw [if_pos h1]; exact (itoaB_ok ⟨h2, h3⟩).1
  · rw [if_neg (by omega), if_pos h1]; exact h3.1
def rowB (r : List I_Value) : ByteArray := joinB (r.map prW) ⟨#[32]⟩
def rowsB (rs : List (List I_Value)) : ByteArray := joinB (rs.map rowB) ⟨#[59]⟩
def rGood (r : List I_Value) : Prop := r.length ≤ 5 ∧ ∀ v ∈ r, vV v
theorem rowB_size {r : List I_Value} (h : rGood r) : (rowB r).size ≤ 65 := by
  have h1 := joinB_size (xs := r.map prW) (sep := ⟨#[32]⟩) (m := 13) (fun x hx => by
    obtain ⟨v, hv, rfl⟩ := List.mem_map.1 hx
    have := prW_size (h.2 v hv)
    have e : (ByteArray.mk #[32]).size = 1 := rfl
    omega) (r.map prW).length (Nat.le_refl _)
  rw [List.take_length, List.length_map] at h1
  have := h.1
  unfold rowB
  omega
def rsGood (rs : List (List I_Value)) : Prop := rs.length ≤ 10 ∧ ∀ r ∈ rs, rGood r
theorem rowsB_size {rs : List (List I_Value)} (h : rsGood rs) : (rowsB rs).size ≤ 660 := by
  have h1 := joinB_size (xs := rs.map rowB) (sep := ⟨#[59]⟩) (m := 66) (fun x hx => by
    obtain ⟨v, hv, rfl⟩ := List.mem_map.1 hx
    have := rowB_size (h.2 v hv)
    have e : (ByteArray.mk #[59]).size = 1 := rfl
    omega) (rs.map rowB).length (Nat.le_refl _)
  rw [List.take_length, List.length_map] at h1
  have := h.1
  unfold rowsB
  omega
theorem tR_good (t : I_Table) : rsGood (tR t) := by
  unfold tR
  split
  · rename_i h
    refine ⟨by rw [List.length_map]; exact h.2.1, fun r hr => ?_⟩
    obtain ⟨x, hx, rfl⟩ := List.mem_map.1 hr
    obtain ⟨i, hi, rfl⟩ := List.mem_iff_getElem.1 hx
    have hf := adv_fit h (h.2.2 i hi)
    have hl := (fL_v h).1
    refine ⟨by have := hf.1; omega, fun v hv => ?_⟩
    obtain ⟨k, hk, rfl⟩ := List.mem_iff_getElem.1 hv
    exact (hf.2 k hk (by have := hf.1; omega)).1
  · exact ⟨Nat.zero_le _, fun r hr => by cases hr⟩
section
variable {N : Nat} (hN : 100000000 ≤ N)
theorem prI (N : Nat) {v : I_Value} (h : vV v) : m_I_Value_print N v = some (prW v) := by
  unfold m_I_Value_print prW
  by_cases h1 : v.kind = 1
  · have := vV_num h
    rw [if_pos h1, decide_eq_true h1, cond_true]
    have e : m_strconv_Itoa N v.num = some (itoaB v.num) := if_pos (by omega)
    rw [e]; rfl
  · rw [if_neg h1, decide_eq_false h1, cond_false]
    by_cases h2 : v.kind = 2
    · rw [if_pos h2, decide_eq_true h2]; rfl
    · rw [if_neg h2, decide_eq_false h2]; rfl
include hN
theorem prS {v : I_Value} (h : vV v) : m_S_wordOf N v = some (prW v) := by
  unfold m_S_wordOf prW
  by_cases h1 : v.kind = 1
  · have := vV_num h
    rw [if_pos h1, decide_eq_true h1, cond_true, decimal_ok (by omega) (by omega)]; rfl
  · rw [if_neg h1, decide_eq_false h1, cond_false]
    by_cases h2 : v.kind = 2
    · rw [if_pos h2, decide_eq_true h2]; rfl
    · rw [if_neg h2, decide_eq_false h2]; rfl
theorem printI {t : I_Table} {b : Bool} (hb : bT t) : m_I_session_rows N ⟨t, b⟩ = some (rowsB (tR t), ⟨t, b⟩) := by
  refine ok.val ?_
  unfold m_I_session_rows
  have hg := tR_good t
  refine ok.eq (rowsI hN hb) ?_
  generalize tR t = rs at hg ⊢
  have hl := hg.1
  refine ok.eq (mapL_loop (xs := rs) (f := rowB) (by omega) (fun i hi v hv => ?_) fun v => ?_) ?_
  · show m_I_session_rows_b2 N rs (i : Int) v = _
    refine ok.val ?_
    unfold m_I_session_rows_b2
    have hr := hg.2 rs[i] (List.getElem_mem _)
    have hr5 := hr.1
    refine ok.ift (by omega) (ok.eq (ixI_nat hi) (ok.eq (mapL_loop (xs := rs[i]) (f := prW) (by omega) (fun k hk u hu => ?_) fun u => ?_) ?_))
    · show m_I_session_rows_b3 N rs[i] (k : Int) u = _
      refine ok.val ?_
      unfold m_I_session_rows_b3
      exact ok.ift (by omega) (ok.eq (ixI_nat hk) (ok.eq (prI N (hr.2 _ (List.getElem_mem _))) (ok.app (by simp; omega) (ok.chk (by omega) (ok.some rfl)))))
    · show m_I_session_rows_b3 N rs[i] _ u = _
      unfold m_I_session_rows_b3
      rw [decide_eq_false (by omega)]; rfl
    · unfold m_I_session_rows_k3
      have hs := rowB_size hr
      have e : m_strings_Join N (rs[i].map prW) ⟨#[32]⟩ = some (rowB rs[i]) := if_pos ⟨by rw [List.length_map]; omega, by show (rowB rs[i]).size ≤ _; omega⟩
      exact ok.eq e (ok.app (by simp; omega) (ok.chk (by omega) (ok.some rfl)))
  · show m_I_session_rows_b2 N rs _ v = _
    unfold m_I_session_rows_b2
    rw [decide_eq_false (by omega)]; rfl
  · unfold m_I_session_rows_k2
    have hs := rowsB_size hg
    have e : m_strings_Join N (rs.map rowB) ⟨#[59]⟩ = some (rowsB rs) := if_pos ⟨by rw [List.length_map]; omega, by show (rowsB rs).size ≤ _; omega⟩
    exact ok.eq e (ok.some rfl)
theorem printS {t : I_Table} (hb : bT t) : m_S_desk_rows N ⟨t⟩ = some (rowsB (tR t), ⟨t⟩) := by
  refine ok.val ?_
  unfold m_S_desk_rows
  have hg := tR_good t
  refine ok.eq (rowsS hN hb) ?_
  generalize tR t = rs at hg ⊢
  have hl := hg.1
  have e32 : (ByteArray.mk #[32]).size = 1 := rfl
  have e59 : (ByteArray.mk #[59]).size = 1 := rfl
  have hsz : ∀ x ∈ rs.map rowB, x.size + (ByteArray.mk #[59]).size ≤ 66 := fun x hx => by
    obtain ⟨v, hv, rfl⟩ := List.mem_map.1 hx
    have := rowB_size (hg.2 v hv)
    omega
  have hrow : ∀ r ∈ rs, ∀ x ∈ r.map prW, x.size + (ByteArray.mk #[32]).size ≤ 13 := fun r hr x hx => by
    obtain ⟨v, hv, rfl⟩ := List.mem_map.1 hx
    have := prW_size ((hg.2 r hr).2 v hv)
    omega
  refine ok.eq (cat_loop (xs := rs.map rowB) (sep := ⟨#[59]⟩) (o := ByteArray.empty) (m := 66) (B := 660) (by rw [List.length_map]; omega) hsz (by rw [List.length_map]; have : ByteArray.empty.size = 0 := rfl; omega) (fun i hi u hu => ?_) fun u => ?_) ?_
  · rw [List.length_map] at hi
    show m_S_desk_rows_b3 N rs u (i : Int) = _
    refine ok.val ?_
    unfold m_S_desk_rows_b3
    have hr := hg.2 rs[i] (List.getElem_mem _)
    have hr5 := hr.1
    have hw := hrow rs[i] (List.getElem_mem _)
    refine ok.ift (by omega) (ok.ite (fun h0 => ?_) fun h0 => ?_)
    · refine ok.eq (addS_eq (by omega)) (ok.eq (cat_loop (xs := rs[i].map prW) (sep := ⟨#[32]⟩) (o := u ++ ⟨#[59]⟩) (m := 13) (B := 1000) (by rw [List.length_map]; omega) hw (by rw [List.length_map, ByteArray.size_append]; omega) (fun k hk q hq => ?_) fun q => ?_) ?_)
      · rw [List.length_map] at hk
        show m_S_desk_rows_b4 N rs (i : Int) q (k : Int) = _
        have hp := prW_size (hr.2 rs[i][k] (List.getElem_mem _))
        refine ok.val ?_
        unfold m_S_desk_rows_b4
        refine ok.eq (ixI_nat hi) (ok.ift (by omega) (ok.ite (fun hk0 => ?_) fun hk0 => ?_))
        · refine ok.eq (addS_eq (by omega)) (ok.eq (ixI_nat hk) (ok.eq (prS hN (hr.2 _ (List.getElem_mem _))) (ok.eq (addS_eq (by rw [ByteArray.size_append]; omega)) (ok.chk (by omega) (ok.some ?_)))))
          rw [if_neg (by omega), List.getElem_map]
        · refine ok.eq (ixI_nat hk) (ok.eq (prS hN (hr.2 _ (List.getElem_mem _))) (ok.eq (addS_eq (by omega)) (ok.chk (by omega) (ok.some ?_))))
          rw [if_pos (by omega), List.getElem_map]
      · show m_S_desk_rows_b4 N rs (i : Int) q _ = _
        refine ok.val ?_
        unfold m_S_desk_rows_b4
        rw [List.length_map]
        exact ok.eq (ixI_nat hi) (ok.iff (by omega) (ok.some rfl))
      · unfold m_S_desk_rows_k4
        refine ok.chk (by omega) (ok.some ?_)
        rw [if_neg (by omega), List.getElem_map]; rfl
    · refine ok.eq (cat_loop (xs := rs[i].map prW) (sep := ⟨#[32]⟩) (o := u) (m := 13) (B := 1000) (by rw [List.length_map]; omega) hw (by rw [List.length_map]; omega) (fun k hk q hq => ?_) fun q => ?_) ?_
      · rw [List.length_map] at hk
        show m_S_desk_rows_b5 N rs (i : Int) q (k : Int) = _
        have hp := prW_size (hr.2 rs[i][k] (List.getElem_mem _))
        refine ok.val ?_
        unfold m_S_desk_rows_b5
        refine ok.eq (ixI_nat hi) (ok.ift (by omega) (ok.ite (fun hk0 => ?_) fun hk0 => ?_))
        · refine ok.eq (addS_eq (by omega)) (ok.eq (ixI_nat hk) (ok.eq (prS hN (hr.2 _ (List.getElem_mem _))) (ok.eq (addS_eq (by rw [ByteArray.size_append]; omega)) (ok.chk (by omega) (ok.some ?_)))))
          rw [if_neg (by omega), List.getElem_map]
        · refine ok.eq (ixI_nat hk) (ok.eq (prS hN (hr.2 _ (List.getElem_mem _))) (ok.eq (addS_eq (by omega)) (ok.chk (by omega) (ok.some ?_))))
          rw [if_pos (by omega), List.getElem_map]
      · show m_S_desk_rows_b5 N rs (i : Int) q _ = _
        refine ok.val ?_
        unfold m_S_desk_rows_b5
        rw [List.length_map]
        exact ok.eq (ixI_nat hi) (ok.iff (by omega) (ok.some rfl))
      · unfold m_S_desk_rows_k5
        refine ok.chk (by omega) (ok.some ?_)
        rw [if_pos (by omega), List.getElem_map]; rfl
  · show m_S_desk_rows_b3 N rs u _ = _
    unfold m_S_desk_rows_b3
    rw [List.length_map, decide_eq_false (by omega)]; rfl
  · rw [empty_app]
    exact ok.some rfl
theorem countI {t : I_Table} {b : Bool} (hb : bT t) (hv : b = true → tV t) (hn : b = false → ¬ tV t) : m_I_session_old N ⟨t, b⟩ = some (if tV t then itoaB (oldN t) else ⟨#[110, 111]⟩, ⟨t, b⟩) := by
  refine ok.val ?_
  unfold m_I_session_old
  cases b with
  | true =>
    have h := hv rfl
    rw [if_pos h]
    have h1 : oldN t = (t.rows.countP (oldB t) : Int) := if_pos h
    have h2 := List.countP_le_length (p := oldB t) (l := t.rows)
    have h3 := h.2.1
    have e : m_strconv_Itoa N (oldN t) = some (itoaB (oldN t)) := if_pos (by omega)
    exact ok.bt rfl (ok.eq (oldI hN hb) (ok.eq e (ok.some rfl)))
  | false =>
    rw [if_neg (hn rfl)]
    exact ok.bf rfl (ok.some rfl)
theorem countS {t : I_Table} (hb : bT t) : m_S_desk_old N ⟨t⟩ = some (if tV t then itoaB (oldN t) else ⟨#[110, 111]⟩, ⟨t⟩) := by
  refine ok.val ?_
  unfold m_S_desk_old
  refine ok.eq (validTS hN hb) (ok.ite (fun h => ?_) fun h => ?_)
  · rw [if_pos h]
    have h1 : oldN t = (t.rows.countP (oldB t) : Int) := if_pos h
    have h2 := List.countP_le_length (p := oldB t) (l := t.rows)
    have h3 : t.rows.length ≤ 10 := h.2.1
    exact ok.eq (oldS hN hb) (ok.eq (decimal_ok (n := oldN t) (by omega) (by omega)) (ok.some rfl))
  · rw [if_neg h]
    exact ok.some rfl
end
end V
end Go.Proofs.YtemmcidmcojjjaaGreatDoor
namespace Go.Proofs.YtemmcidmcojjjaaGreatDoor
namespace V
set_option maxHeartbeats 1000000
theorem ok.and {α : Type} {a b : Prop} [Decidable a] [Decidable b] {x y : Option α} {Q : α → Prop} (h1 : a ∧ b → ok x Q) (h2 : ¬ (a ∧ b) → ok y Q) : ok (_root_.cond (decide a && decide b) x y) Q := by
  by_cases h : a ∧ b
  · rw [decide_eq_true h.1, decide_eq_true h.2]; exact h1 h
  · have e : (decide a && decide b) = false := by
      by_cases ha : a
      · rw [decide_eq_false (fun hb => h ⟨ha, hb⟩), Bool.and_false]
      · rw [decide_eq_false ha, Bool.false_and]
    rw [e]; exact h2 h
structure sInv (t : I_Table) (b : Bool) : Prop where
  bt : bT t
  on : b = true → tV t
  off : b = false → t = noT
theorem noT_nv : ¬ tV noT := fun h => by
  have := h.1.1.1.1
  have e : ([] : List I_Column).length = 0 := rfl
  change 1 ≤ ([] : List I_Column).length at this
  omega
theorem sInv.nv {t : I_Table} {b : Bool} (h : sInv t b) (hb : b = false) : ¬ tV t := by rw [h.off hb]; exact noT_nv
theorem sInv.has {t : I_Table} {b : Bool} (h : sInv t b) (hv : tV t) : b = true := by
  cases b with
  | true => rfl
  | false => exact absurd hv (h.nv rfl)
theorem sInv.next {t t' : I_Table} {b : Bool} (h : sInv t b) (hv : tV t) (hv' : tV t') (hb : bT t') : sInv t' b := ⟨hb, fun _ => hv', fun e => by rw [h.has hv] at e; cases e⟩
theorem sInv.zero : sInv noT false := ⟨⟨⟨Nat.zero_le _, fun c h => by cases h⟩, ⟨Nat.zero_le _, fun c h => by cases h⟩, Nat.zero_le _, fun i h => absurd h (Nat.not_lt_zero _)⟩, fun e => (by cases e), fun _ => rfl⟩
def ansB (b : Bool) : ByteArray := if b = true then ⟨#[111, 107]⟩ else ⟨#[110, 111]⟩
theorem ansI (N : Nat) (b : Bool) : m_I_answer N b = some (ansB b) := by cases b <;> rfl
noncomputable def colW (z : Int) (w : ByteArray) : I_Column := ⟨kW z w, ⟨0, 0, ByteArray.empty⟩⟩
noncomputable def alQ (t : I_Table) (b : Bool) (c : I_Change) : Bool × I_Table × Bool := if canA t c then (true, altT t c, b) else (false, t, b)
noncomputable def inQ (t : I_Table) (b : Bool) (ws : List ByteArray) : Bool × I_Table × Bool := if canI t (ws.map valW) then (true, insT t (ws.map valW), b) else (false, t, b)
noncomputable def reQ (t : I_Table) (b : Bool) (n : Int) : Bool × I_Table × Bool := if tV t ∧ 0 ≤ n then (true, rwT t n.toNat, b) else (false, t, b)
noncomputable def crQ (t : I_Table) (b : Bool) (ws : List ByteArray) : Bool × I_Table × Bool := if vF (ws.map (colW 0)) then (true, ⟨ws.map (colW 0), [], []⟩, true) else (false, t, b)
def wsOk (ws : List ByteArray) : Prop := ws.length ≤ 2000000 ∧ ∀ w ∈ ws, w.size ≤ 2000000
theorem cols_bS {z : Int} {ws : List ByteArray} (h : wsOk ws) : bS (ws.map (colW z)) := ⟨by rw [List.length_map]; have := h.1; omega, fun c hc => by
  obtain ⟨w, _, rfl⟩ := List.mem_map.1 hc
  exact Nat.zero_le _⟩
theorem vals_bR {ws : List ByteArray} (h : wsOk ws) : bR (ws.map valW) := ⟨by rw [List.length_map]; have := h.1; omega, fun c hc => by
  obtain ⟨w, hw, rfl⟩ := List.mem_map.1 hc
  have := valW_text w
  have := h.2 w hw
  omega⟩
theorem cols_eq {z z' : Int} (hz : z ≠ 1 ∧ z ≠ 2) {ws : List ByteArray} (h : vF (ws.map (colW z))) : ws.map (colW z') = ws.map (colW z) := by
  refine List.map_congr_left fun w hw => ?_
  obtain ⟨i, hi, rfl⟩ := List.mem_iff_getElem.1 hw
  have h1 := h.2 i (by rw [List.length_map]; exact hi)
  rw [List.getElem_map] at h1
  have h2 : kW z ws[i] = 1 ∨ kW z ws[i] = 2 := h1.1
  unfold colW
  rw [kW_eq h2 hz]
theorem cols_iff {ws : List ByteArray} : vF (ws.map (colW (-1))) ↔ vF (ws.map (colW 0)) := by
  constructor
  · intro h; rw [cols_eq (z' := 0) (by omega) h]; exact h
  · intro h; rw [cols_eq (z' := -1) (by omega) h]; exact h
theorem can_kind {z z' : Int} (hz : z ≠ 1 ∧ z ≠ 2) {t : I_Table} {a : Int} {w : ByteArray} {v : I_Value} (h : canA t ⟨1, a, ⟨kW z w, v⟩⟩) : kW z' w = kW z w := by
  refine kW_eq ?_ hz
  rcases h.2.2 with ⟨_, _, _, _, h1⟩ | ⟨h1, _⟩ | ⟨h1, _⟩
  · exact h1.1
  · exact absurd h1 (by show ¬ (1 : Int) = 2; omega)
  · exact absurd h1 (by show ¬ (1 : Int) = 3; omega)
theorem alQ_kind {t : I_Table} {b : Bool} {a : Int} {w : ByteArray} {v : I_Value} : alQ t b ⟨1, a, ⟨kW (-1) w, v⟩⟩ = alQ t b ⟨1, a, ⟨kW 0 w, v⟩⟩ := by
  by_cases h : canA t ⟨1, a, ⟨kW (-1) w, v⟩⟩
  · rw [can_kind (z' := 0) (by omega) h]
  · by_cases h' : canA t ⟨1, a, ⟨kW 0 w, v⟩⟩
    · rw [can_kind (z' := -1) (by omega) h']
    · unfold alQ; rw [if_neg h, if_neg h']
theorem can_at {t : I_Table} {c : I_Change} (h : canA t c) : 0 ≤ c.at_ := (poss_at h.2.2).1
theorem alQ_inv {t : I_Table} {b : Bool} {c : I_Change} (h : sInv t b) (hc : c.column.default.text.size ≤ 5000000) : sInv (alQ t b c).2.1 (alQ t b c).2.2 := by
  unfold alQ
  split
  · rename_i hca
    refine h.next hca.1 (altT_v hca) (tV_bT (altT_v hca) ⟨by show (t.changes ++ [c]).length ≤ _; have := hca.1.1.2.1; simp; omega, fun x hx => ?_⟩)
    rcases List.mem_append.1 (show x ∈ t.changes ++ [c] from hx) with h1 | h1
    · exact h.bt.c.2 x h1
    · rw [List.mem_singleton.1 h1]; exact hc
  · exact h
theorem inQ_inv {t : I_Table} {b : Bool} {ws : List ByteArray} (h : sInv t b) : sInv (inQ t b ws).2.1 (inQ t b ws).2.2 := by
  unfold inQ
  split
  · rename_i hca
    exact h.next hca.1 (insT_v hca) (tV_bT (insT_v hca) h.bt.c)
  · exact h
theorem reQ_inv {t : I_Table} {b : Bool} {n : Int} (h : sInv t b) : sInv (reQ t b n).2.1 (reQ t b n).2.2 := by
  unfold reQ
  split
  · rename_i hca
    exact h.next hca.1 (rwT_v hca.1 _) (tV_bT (rwT_v hca.1 _) h.bt.c)
  · exact h
theorem crQ_inv {t : I_Table} {b : Bool} {ws : List ByteArray} (h : sInv t b) : sInv (crQ t b ws).2.1 (crQ t b ws).2.2 := by
  unfold crQ
  split
  · rename_i hv
    have hc : bCs ([] : List I_Change) := ⟨Nat.zero_le _, fun c h => by cases h⟩
    have hv' : tV ⟨ws.map (colW 0), [], []⟩ := ⟨⟨hv, Nat.zero_le _, fun i h => absurd h (Nat.not_lt_zero _)⟩, Nat.zero_le _, fun i h => absurd h (Nat.not_lt_zero _)⟩
    exact ⟨tV_bT hv' hc, fun _ => hv', fun e => by cases e⟩
  · exact h
section
variable {N : Nat} (hN : 100000000 ≤ N)
include hN
theorem crI {t : I_Table} {b : Bool} {ws : List ByteArray} (h : wsOk ws) : m_I_session_create N ⟨t, b⟩ ws = some ((crQ t b ws).1, ⟨(crQ t b ws).2.1, (crQ t b ws).2.2⟩) := by
  refine ok.val ?_
  unfold m_I_session_create
  have hl := h.1
  refine ok.eq (mapL_loop (xs := ws) (f := colW 0) (by omega) (fun i hi v hv => ?_) fun v => ?_) ?_
  · show m_I_session_create_b1 N ws (i : Int) v = _
    refine ok.val ?_
    unfold m_I_session_create_b1
    exact ok.ift (by omega) (ok.eq (ixI_nat hi) (ok.eq (kindI N _) (ok.app (by simp; omega) (ok.chk (by omega) (ok.some rfl)))))
  · show m_I_session_create_b1 N ws _ v = _
    unfold m_I_session_create_b1
    rw [decide_eq_false (by omega)]; rfl
  · unfold m_I_session_create_k1 crQ
    refine ok.eq (vFI hN (cols_bS h)) (ok.ite (fun hv => ?_) fun hv => ?_)
    · rw [if_pos hv]; exact ok.some rfl
    · rw [if_neg hv]; exact ok.some rfl
theorem crS {t : I_Table} {b : Bool} {ws : List ByteArray} (h : wsOk ws) : m_S_desk_create N ⟨t⟩ ws = some (ansB (crQ t b ws).1, ⟨(crQ t b ws).2.1⟩) := by
  refine ok.val ?_
  unfold m_S_desk_create
  have hl := h.1
  refine ok.eq (mapL_loop (xs := ws) (f := colW (-1)) (by omega) (fun i hi v hv => ?_) fun v => ?_) ?_
  · show m_S_desk_create_b1 N ws (i : Int) v = _
    refine ok.val ?_
    unfold m_S_desk_create_b1
    exact ok.ift (by omega) (ok.eq (ixI_nat hi) (ok.eq (kindS N _) (ok.app (by simp; omega) (ok.chk (by omega) (ok.some rfl)))))
  · show m_S_desk_create_b1 N ws _ v = _
    unfold m_S_desk_create_b1
    rw [decide_eq_false (by omega)]; rfl
  · unfold m_S_desk_create_k1 crQ
    refine ok.eq (vFS hN (cols_bS h)) (ok.ite (fun hv => ?_) fun hv => ?_)
    · rw [if_pos (cols_iff.1 hv), cols_eq (z' := 0) (by omega) hv]; exact ok.some rfl
    · rw [if_neg (fun e => hv (cols_iff.2 e))]; exact ok.some rfl
theorem alI {t : I_Table} {b : Bool} {k : Int} {w : ByteArray} {c : I_Column} (hi : sInv t b) (hw : w.size ≤ 5000000) (hc : c.default.text.size ≤ 5000000) : m_I_session_alter N ⟨t, b⟩ k w c = some ((alQ t b ⟨k, pNum w, c⟩).1, ⟨(alQ t b ⟨k, pNum w, c⟩).2.1, (alQ t b ⟨k, pNum w, c⟩).2.2⟩) := by
  refine ok.val ?_
  unfold m_I_session_alter alQ
  refine ok.eq (parseI hN hw) ?_
  by_cases hn : isNum w
  · have e : pNum w = numV w := if_pos hn
    rw [if_pos hn, e]
    refine ok.bt rfl (ok.eq (altI hN hi.bt hc) ?_)
    by_cases hca : canA t ⟨k, numV w, c⟩
    · rw [if_pos hca, if_pos hca]; exact ok.bt rfl (ok.some rfl)
    · rw [if_neg hca, if_neg hca]; exact ok.bf rfl (ok.some rfl)
  · have e : pNum w = -1 := if_neg hn
    rw [if_neg hn, e, if_neg (fun h => by have := can_at h; change (0 : Int) ≤ -1 at this; omega)]
    exact ok.bf rfl (ok.some rfl)
theorem alS {t : I_Table} {b : Bool} {c : I_Change} (hi : sInv t b) (hc : c.column.default.text.size ≤ 5000000) : m_S_desk_alter N ⟨t⟩ c = some (ansB (alQ t b c).1, ⟨(alQ t b c).2.1⟩) := by
  refine ok.val ?_
  unfold m_S_desk_alter alQ
  refine ok.eq (altS hN hi.bt hc) ?_
  by_cases hca : canA t c
  · rw [if_pos hca, if_pos hca]; exact ok.bt rfl (ok.some rfl)
  · rw [if_neg hca, if_neg hca]; exact ok.bf rfl (ok.some rfl)
theorem inI {t : I_Table} {b : Bool} {ws : List ByteArray} (hi : sInv t b) (h : wsOk ws) : m_I_session_insert N ⟨t, b⟩ ws = some ((inQ t b ws).1, ⟨(inQ t b ws).2.1, (inQ t b ws).2.2⟩) := by
  refine ok.val ?_
  unfold m_I_session_insert
  have hl := h.1
  refine ok.eq (mapL_loop (xs := ws) (f := valW) (by omega) (fun i hi v hv => ?_) fun v => ?_) ?_
  · show m_I_session_insert_b1 N ws (i : Int) v = _
    refine ok.val ?_
    unfold m_I_session_insert_b1
    exact ok.ift (by omega) (ok.eq (ixI_nat hi) (ok.eq (valI hN (by have := h.2 ws[i] (List.getElem_mem _); omega)) (ok.app (by simp; omega) (ok.chk (by omega) (ok.some rfl)))))
  · show m_I_session_insert_b1 N ws _ v = _
    unfold m_I_session_insert_b1
    rw [decide_eq_false (by omega)]; rfl
  · unfold m_I_session_insert_k1 inQ
    refine ok.eq (insI hN hi.bt (vals_bR h)) ?_
    by_cases hca : canI t (ws.map valW)
    · rw [if_pos hca, if_pos hca]; exact ok.bt rfl (ok.some rfl)
    · rw [if_neg hca, if_neg hca]; exact ok.bf rfl (ok.some rfl)
theorem inS {t : I_Table} {b : Bool} {ws : List ByteArray} (hi : sInv t b) (h : wsOk ws) : m_S_desk_insert N ⟨t⟩ ws = some (ansB (inQ t b ws).1, ⟨(inQ t b ws).2.1⟩) := by
  refine ok.val ?_
  unfold m_S_desk_insert
  have hl := h.1
  refine ok.eq (mapL_loop (xs := ws) (f := valW) (by omega) (fun i hi v hv => ?_) fun v => ?_) ?_
  · show m_S_desk_insert_b1 N ws (i : Int) v = _
    refine ok.val ?_
    unfold m_S_desk_insert_b1
    exact ok.ift (by omega) (ok.eq (ixI_nat hi) (ok.eq (valS hN (by have := h.2 ws[i] (List.getElem_mem _); omega)) (ok.app (by simp; omega) (ok.chk (by omega) (ok.some rfl)))))
  · show m_S_desk_insert_b1 N ws _ v = _
    unfold m_S_desk_insert_b1
    rw [decide_eq_false (by omega)]; rfl
  · unfold m_S_desk_insert_k1 inQ
    refine ok.eq (insS hN hi.bt (vals_bR h)) ?_
    by_cases hca : canI t (ws.map valW)
    · rw [if_pos hca, if_pos hca]; exact ok.bt rfl (ok.some rfl)
    · rw [if_neg hca, if_neg hca]; exact ok.bf rfl (ok.some rfl)
theorem reI {t : I_Table} {b : Bool} {w : ByteArray} (hi : sInv t b) (hw : w.size ≤ 5000000) : m_I_session_rewrite N ⟨t, b⟩ w = some ((reQ t b (pNum w)).1, ⟨(reQ t b (pNum w)).2.1, (reQ t b (pNum w)).2.2⟩) := by
  refine ok.val ?_
  unfold m_I_session_rewrite reQ
  refine ok.eq (parseI hN hw) ?_
  by_cases hn : isNum w
  · have e : pNum w = numV w := if_pos hn
    have hb := numV_bd hn
    rw [if_pos hn, e]
    cases b with
    | true =>
      refine ok.bt rfl (ok.bt rfl (ok.eq (rewI hN hi.bt (k := numV w) (by omega)) ?_))
      rw [if_pos ⟨hi.on rfl, hb.1⟩, if_pos ⟨hi.on rfl, hb.1⟩]
      exact ok.some rfl
    | false =>
      rw [if_neg (fun h => hi.nv rfl h.1)]
      exact ok.bt rfl (ok.bf rfl (ok.some rfl))
  · have e : pNum w = -1 := if_neg hn
    rw [if_neg hn, e, if_neg (by omega)]
    exact ok.bf rfl (ok.some rfl)
theorem reS {t : I_Table} {b : Bool} {n : Int} (hi : sInv t b) (hn : n ≤ 1000000) : m_S_desk_rewrite N ⟨t⟩ n = some (ansB (reQ t b n).1, ⟨(reQ t b n).2.1⟩) := by
  refine ok.val ?_
  unfold m_S_desk_rewrite reQ
  refine ok.eq (validTS hN hi.bt) (ok.ite (fun hv => ok.ite (fun h0 => ?_) fun h0 => ?_) fun hv => ?_)
  · rw [if_neg (by omega)]; exact ok.some rfl
  · refine ok.eq (rewS hN hi.bt (by omega)) ?_
    have hv' : tV t ∧ 0 ≤ n := ⟨hv, by omega⟩
    rw [if_pos hv', if_pos hv']; exact ok.some rfl
  · rw [if_neg (fun h => hv h.1)]; exact ok.some rfl
end
abbrev wTable : ByteArray := ⟨#[116, 97, 98, 108, 101]⟩
abbrev wAdd : ByteArray := ⟨#[97, 100, 100]⟩
abbrev wDrop : ByteArray := ⟨#[100, 114, 111, 112]⟩
abbrev wWiden : ByteArray := ⟨#[119, 105, 100, 101, 110]⟩
abbrev wInsert : ByteArray := ⟨#[105, 110, 115, 101, 114, 116]⟩
abbrev wRewrite : ByteArray := ⟨#[114, 101, 119, 114, 105, 116, 101]⟩
abbrev wRows : ByteArray := ⟨#[114, 111, 119, 115]⟩
abbrev wOld : ByteArray := ⟨#[111, 108, 100]⟩
def finQ (q : Bool × I_Table × Bool) : ByteArray × I_Table × Bool := (ansB q.1, q.2.1, q.2.2)
noncomputable def stepW (t : I_Table) (b : Bool) (w : ByteArray) (ws : List ByteArray) : ByteArray × I_Table × Bool :=
  if w = wTable ∧ 1 ≤ ws.length then finQ (crQ t b ws)
  else if w = wAdd ∧ ws.length = 3 then finQ (alQ t b ⟨1, pNum (ws.getD 0 ByteArray.empty), ⟨kW 0 (ws.getD 1 ByteArray.empty), valW (ws.getD 2 ByteArray.empty)⟩⟩)
  else if w = wDrop ∧ ws.length = 1 then finQ (alQ t b ⟨2, pNum (ws.getD 0 ByteArray.empty), ⟨0, ⟨0, 0, ByteArray.empty⟩⟩⟩)
  else if w = wWiden ∧ ws.length = 1 then finQ (alQ t b ⟨3, pNum (ws.getD 0 ByteArray.empty), ⟨0, ⟨0, 0, ByteArray.empty⟩⟩⟩)
  else if w = wInsert ∧ 1 ≤ ws.length then finQ (inQ t b ws)
  else if w = wRewrite ∧ ws.length = 1 then finQ (reQ t b (pNum (ws.getD 0 ByteArray.empty)))
  else if w = wRows ∧ ws.length = 0 then (rowsB (tR t), t, b)
  else if w = wOld ∧ ws.length = 0 then (if tV t then itoaB (oldN t) else ⟨#[110, 111]⟩, t, b)
  else (⟨#[119, 104, 97, 116]⟩, t, b)
theorem stepW_inv {t : I_Table} {b : Bool} {w : ByteArray} {ws : List ByteArray} (h : sInv t b) (hw : wsOk ws) : sInv (stepW t b w ws).2.1 (stepW t b w ws).2.2 := by
  have h0 : ByteArray.empty.size = 0 := rfl
  have hv : (valW (ws.getD 2 ByteArray.empty)).text.size ≤ 5000000 := by
    have h1 := valW_text (ws.getD 2 ByteArray.empty)
    have h2 : (ws.getD 2 ByteArray.empty).size ≤ 2000000 := by
      rw [List.getD_eq_getElem?_getD]
      cases hg : ws[2]? with
      | none => show ByteArray.empty.size ≤ _; omega
      | some x => exact hw.2 x (List.mem_of_getElem? hg)
    omega
  unfold stepW
  split
  · exact crQ_inv h
  split
  · exact alQ_inv h hv
  split
  · exact alQ_inv h (Nat.zero_le _)
  split
  · exact alQ_inv h (Nat.zero_le _)
  split
  · exact inQ_inv h
  split
  · exact reQ_inv h
  split
  · exact h
  split
  · exact h
  · exact h
theorem ansB_size (b : Bool) : (ansB b).size = 2 := by cases b <;> rfl
theorem stepW_size {t : I_Table} {b : Bool} {w : ByteArray} {ws : List ByteArray} : (stepW t b w ws).1.size ≤ 700 := by
  have ha : ∀ q, (finQ q).1.size ≤ 700 := fun q => by show (ansB q.1).size ≤ _; rw [ansB_size]; omega
  unfold stepW
  split
  · exact ha _
  split
  · exact ha _
  split
  · exact ha _
  split
  · exact ha _
  split
  · exact ha _
  split
  · exact ha _
  split
  · have := rowsB_size (tR_good t)
    show (rowsB (tR t)).size ≤ _
    omega
  split
  · show (if tV t then itoaB (oldN t) else (⟨#[110, 111]⟩ : ByteArray)).size ≤ _
    split
    · rename_i hv
      have h1 : oldN t = (t.rows.countP (oldB t) : Int) := if_pos hv
      have h2 := List.countP_le_length (p := oldB t) (l := t.rows)
      have h3 := hv.2.1
      have := (itoaB_ok (n := oldN t) (by omega)).1
      omega
    · show 2 ≤ 700; omega
  · show 4 ≤ 700; omega
noncomputable def stepR (t : I_Table) (b : Bool) (line : ByteArray) : ByteArray × I_Table × Bool := match wordsB line with
  | [] => (ByteArray.empty, t, b)
  | w :: ws => stepW t b w ws
theorem words_ok {line : ByteArray} (h : line.size ≤ 1048576) : ∃ w ws, wordsB line = w :: ws ∧ wsOk ws ∧ (∀ t b, stepR t b line = stepW t b w ws) ∧ ((w = wRows ∧ ws.length = 0) ↔ line = wRows) ∧ ((w = wOld ∧ ws.length = 0) ↔ line = wOld) := by
  have hL := bytesL_len line
  have hmem : ∀ w ∈ wordsB line, w.size ≤ 1048576 := fun w hw => by
    obtain ⟨x, hx, rfl⟩ := List.mem_map.1 hw
    have := spl_mem hx
    rw [b2s_data]; omega
  have hlen : (wordsB line).length ≤ 1048577 := by
    unfold wordsB
    rw [List.length_map]
    have := spl_len (bytesL line)
    omega
  have hone : ∀ u : ByteArray, wordsB line = [u] → line = u := fun u hu => by
    unfold wordsB at hu
    obtain ⟨y, hy, hy2⟩ := List.map_eq_singleton_iff.1 hu
    apply bytesL_inj
    rw [← hy2, bytesL_b2s]
    exact spl_one hy
  cases hw : wordsB line with
  | nil =>
    exfalso
    unfold wordsB at hw
    exact spl_ne _ (List.map_eq_nil_iff.1 hw)
  | cons w ws =>
    rw [hw] at hlen hmem
    rw [List.length_cons] at hlen
    refine ⟨w, ws, rfl, ⟨by omega, fun x hx => by have := hmem x (List.mem_cons_of_mem _ hx); omega⟩, fun t b => by unfold stepR; rw [hw], ⟨?_, ?_⟩, ?_, ?_⟩
    · rintro ⟨rfl, h2⟩
      obtain rfl : ws = [] := List.eq_nil_of_length_eq_zero h2
      exact hone _ hw
    · rintro rfl
      have e : wordsB wRows = [wRows] := by decide
      rw [e] at hw
      cases hw
      exact ⟨rfl, rfl⟩
    · rintro ⟨rfl, h2⟩
      obtain rfl : ws = [] := List.eq_nil_of_length_eq_zero h2
      exact hone _ hw
    · rintro rfl
      have e : wordsB wOld = [wOld] := by decide
      rw [e] at hw
      cases hw
      exact ⟨rfl, rfl⟩
theorem stepR_inv {t : I_Table} {b : Bool} {line : ByteArray} (h : sInv t b) (hl : line.size ≤ 1048576) : sInv (stepR t b line).2.1 (stepR t b line).2.2 := by
  obtain ⟨w, ws, _, h2, h3, _, _⟩ := words_ok hl
  rw [h3]; exact stepW_inv h h2
theorem stepR_size {t : I_Table} {b : Bool} {line : ByteArray} (hl : line.size ≤ 1048576) : (stepR t b line).1.size ≤ 700 := by
  obtain ⟨w, ws, _, h2, h3, _, _⟩ := words_ok hl
  rw [h3]; exact stepW_size
section
variable {N : Nat} (hN : 100000000 ≤ N)
include hN
theorem runI {t : I_Table} {b : Bool} {line : ByteArray} (hi : sInv t b) (hl : line.size ≤ 1048576) : m_I_session_run N ⟨t, b⟩ line = some ((stepR t b line).1, ⟨(stepR t b line).2.1, (stepR t b line).2.2⟩) := by
  obtain ⟨w, ws, h1, h2, h3, h4, h5⟩ := words_ok hl
  rw [h3]
  refine ok.val ?_
  unfold m_I_session_run
  refine ok.eq (splitI hN (by omega)) ?_
  rw [h1]
  have hws := h2.1
  have e0 : ixI (w :: ws) 0 = some w := rfl
  refine ok.eq e0 ?_
  have es : V.subM (w :: ws) (1 : Int) ((w :: ws).length : Int) = some ws := by
    rw [subM_eq (by rw [List.length_cons]; omega)]
    show some (List.take _ ws) = _
    rw [List.take_of_length_le (by rw [List.length_cons]; omega)]
  refine ok.eq es ?_
  unfold stepW
  rw [textEq, textEq, textEq, textEq, textEq, textEq, textEq, textEq]
  refine ok.and (fun h => ?_) fun h => ?_
  · rw [if_pos ⟨h.1, by omega⟩]
    exact ok.eq (crI hN h2) (ok.eq (ansI N _) (ok.some rfl))
  rw [if_neg (fun e => h ⟨e.1, by omega⟩)]
  refine ok.and (fun h => ?_) fun h => ?_
  · have hl3 : ws.length = 3 := by omega
    rw [if_pos ⟨h.1, hl3⟩]
    match ws, hl3, h2 with
    | [x, y, z], _, h2 =>
      have hx := h2.2 x (by simp)
      have hz := h2.2 z (by simp)
      have hv := valW_text z
      refine ok.eq (v := y) rfl (ok.eq (kindI N y) (ok.eq (v := z) rfl (ok.eq (valI hN (by omega)) (ok.eq (v := x) rfl (ok.eq (alI hN hi (by omega) (by show (valW z).text.size ≤ _; omega)) (ok.eq (ansI N _) (ok.some rfl)))))))
  rw [if_neg (fun e => h ⟨e.1, by omega⟩)]
  refine ok.and (fun h => ?_) fun h => ?_
  · have hl3 : ws.length = 1 := by omega
    rw [if_pos ⟨h.1, hl3⟩]
    match ws, hl3, h2 with
    | [x], _, h2 =>
      have hx := h2.2 x (by simp)
      refine ok.eq (v := x) rfl (ok.eq (alI hN hi (by omega) (Nat.zero_le _)) (ok.eq (ansI N _) (ok.some rfl)))
  rw [if_neg (fun e => h ⟨e.1, by omega⟩)]
  refine ok.and (fun h => ?_) fun h => ?_
  · have hl3 : ws.length = 1 := by omega
    rw [if_pos ⟨h.1, hl3⟩]
    match ws, hl3, h2 with
    | [x], _, h2 =>
      have hx := h2.2 x (by simp)
      refine ok.eq (v := x) rfl (ok.eq (alI hN hi (by omega) (Nat.zero_le _)) (ok.eq (ansI N _) (ok.some rfl)))
  rw [if_neg (fun e => h ⟨e.1, by omega⟩)]
  refine ok.and (fun h => ?_) fun h => ?_
  · rw [if_pos ⟨h.1, by omega⟩]
    exact ok.eq (inI hN hi h2) (ok.eq (ansI N _) (ok.some rfl))
  rw [if_neg (fun e => h ⟨e.1, by omega⟩)]
  refine ok.and (fun h => ?_) fun h => ?_
  · have hl3 : ws.length = 1 := by omega
    rw [if_pos ⟨h.1, hl3⟩]
    match ws, hl3, h2 with
    | [x], _, h2 =>
      have hx := h2.2 x (by simp)
      refine ok.eq (v := x) rfl (ok.eq (reI hN hi (by omega)) (ok.eq (ansI N _) (ok.some rfl)))
  rw [if_neg (fun e => h ⟨e.1, by omega⟩)]
  refine ok.and (fun h => ?_) fun h => ?_
  · rw [if_pos ⟨h.1, by omega⟩]
    exact ok.eq (printI hN hi.bt) (ok.some rfl)
  rw [if_neg (fun e => h ⟨e.1, by omega⟩)]
  refine ok.and (fun h => ?_) fun h => ?_
  · rw [if_pos ⟨h.1, by omega⟩]
    exact ok.eq (countI hN hi.bt hi.on hi.nv) (ok.some rfl)
  rw [if_neg (fun e => h ⟨e.1, by omega⟩)]
  exact ok.some rfl
theorem lineS {t : I_Table} {b : Bool} {line : ByteArray} (hi : sInv t b) (hl : line.size ≤ 1048576) : m_S_desk_line N ⟨t⟩ line = some ((stepR t b line).1, ⟨(stepR t b line).2.1⟩) := by
  obtain ⟨w, ws, h1, h2, h3, h4, h5⟩ := words_ok hl
  rw [h3]
  refine ok.val ?_
  unfold m_S_desk_line
  refine ok.eq (splitS hN (by omega)) ?_
  rw [h1]
  have hws := h2.1
  have e0 : ixI (w :: ws) 0 = some w := rfl
  refine ok.eq e0 ?_
  have es : V.subM (w :: ws) (1 : Int) ((w :: ws).length : Int) = some ws := by
    rw [subM_eq (by rw [List.length_cons]; omega)]
    show some (List.take _ ws) = _
    rw [List.take_of_length_le (by rw [List.length_cons]; omega)]
  have el : ((w :: ws).length : Int) = (ws.length : Int) + 1 := by rw [List.length_cons]; omega
  unfold stepW
  rw [textEq]
  refine ok.and (fun h => ?_) fun h => ?_
  · rw [if_pos ⟨h.1, by omega⟩]
    exact ok.eq es (ok.eq (crS (b := b) hN h2) (ok.some rfl))
  rw [if_neg (fun e => h ⟨e.1, by omega⟩)]
  refine ok.eq e0 ?_
  rw [textEq]
  refine ok.and (fun h => ?_) fun h => ?_
  · have hl3 : ws.length = 3 := by omega
    rw [if_pos ⟨h.1, hl3⟩]
    match ws, hl3, h2 with
    | [x, y, z], _, h2 =>
      have hx := h2.2 x (by simp)
      have hz := h2.2 z (by simp)
      have hv := valW_text z
      have ek : alQ t b ⟨1, pNum x, ⟨kW (-1) y, valW z⟩⟩ = alQ t b ⟨1, pNum x, ⟨kW 0 y, valW z⟩⟩ := alQ_kind
      refine ok.eq (v := x) rfl (ok.eq (parseS hN (by omega)) (ok.eq (v := y) rfl (ok.eq (kindS N y) (ok.eq (v := z) rfl (ok.eq (valS hN (by omega)) (ok.eq (alS (b := b) hN hi (by show (valW z).text.size ≤ _; omega)) (ok.some ?_)))))))
      rw [ek]; rfl
  rw [if_neg (fun e => h ⟨e.1, by omega⟩)]
  refine ok.eq e0 ?_
  rw [textEq]
  refine ok.and (fun h => ?_) fun h => ?_
  · have hl3 : ws.length = 1 := by omega
    rw [if_pos ⟨h.1, hl3⟩]
    match ws, hl3, h2 with
    | [x], _, h2 =>
      have hx := h2.2 x (by simp)
      refine ok.eq (v := x) rfl (ok.eq (parseS hN (by omega)) (ok.eq (alS (b := b) hN hi (Nat.zero_le _)) (ok.some rfl)))
  rw [if_neg (fun e => h ⟨e.1, by omega⟩)]
  refine ok.eq e0 ?_
  rw [textEq]
  refine ok.and (fun h => ?_) fun h => ?_
  · have hl3 : ws.length = 1 := by omega
    rw [if_pos ⟨h.1, hl3⟩]
    match ws, hl3, h2 with
    | [x], _, h2 =>
      have hx := h2.2 x (by simp)
      refine ok.eq (v := x) rfl (ok.eq (parseS hN (by omega)) (ok.eq (alS (b := b) hN hi (Nat.zero_le _)) (ok.some rfl)))
  rw [if_neg (fun e => h ⟨e.1, by omega⟩)]
  refine ok.eq e0 ?_
  rw [textEq]
  refine ok.and (fun h => ?_) fun h => ?_
  · rw [if_pos ⟨h.1, by omega⟩]
    exact ok.eq es (ok.eq (inS (b := b) hN hi h2) (ok.some rfl))
  rw [if_neg (fun e => h ⟨e.1, by omega⟩)]
  refine ok.eq e0 ?_
  rw [textEq]
  refine ok.and (fun h => ?_) fun h => ?_
  · have hl3 : ws.length = 1 := by omega
    rw [if_pos ⟨h.1, hl3⟩]
    match ws, hl3, h2 with
    | [x], _, h2 =>
      have hx := h2.2 x (by simp)
      refine ok.eq (v := x) rfl (ok.eq (parseS hN (by omega)) (ok.eq (reS (b := b) hN hi (by have := pNum_bd x; omega)) (ok.some rfl)))
  rw [if_neg (fun e => h ⟨e.1, by omega⟩)]
  rw [textEq]
  refine ok.ite (fun h => ?_) fun h => ?_
  · rw [if_pos (h4.2 h)]
    exact ok.eq (printS hN hi.bt) (ok.some rfl)
  rw [if_neg (fun e => h (h4.1 e)), textEq]
  refine ok.ite (fun h => ?_) fun h => ?_
  · rw [if_pos (h5.2 h)]
    exact ok.eq (countS hN hi.bt) (ok.some rfl)
  rw [if_neg (fun e => h (h5.1 e))]
  exact ok.some rfl
end
end V
end Go.Proofs.YtemmcidmcojjjaaGreatDoor
namespace Go.Proofs.YtemmcidmcojjjaaGreatDoor
namespace V
set_option maxHeartbeats 1000000
abbrev nlB : ByteArray := ⟨#[10]⟩
noncomputable def stF (s : ByteArray × I_Table × Bool) (l : ByteArray) : ByteArray × I_Table × Bool := (s.1 ++ (stepR s.2.1 s.2.2 l).1 ++ nlB, (stepR s.2.1 s.2.2 l).2.1, (stepR s.2.1 s.2.2 l).2.2)
noncomputable def ses (ls : List ByteArray) : ByteArray × I_Table × Bool := ls.foldl stF (ByteArray.empty, noT, false)
theorem ses_snoc (ls : List ByteArray) (l : ByteArray) : ses (ls ++ [l]) = stF (ses ls) l := by unfold ses; rw [List.foldl_append]; rfl
def lnOk (ls : List ByteArray) : Prop := ∀ l ∈ ls, l.size ≤ 1048576
theorem fold_inv : ∀ (ls : List ByteArray) (s : ByteArray × I_Table × Bool), lnOk ls → sInv s.2.1 s.2.2 → sInv (ls.foldl stF s).2.1 (ls.foldl stF s).2.2
  | [], s, _, h => h
  | l :: ls, s, hl, h => fold_inv ls (stF s l) (fun x hx => hl x (List.mem_cons_of_mem _ hx)) (stepR_inv h (hl l List.mem_cons_self))
theorem fold_size : ∀ (ls : List ByteArray) (s : ByteArray × I_Table × Bool), lnOk ls → (ls.foldl stF s).1.size ≤ s.1.size + 701 * ls.length
  | [], s, _ => Nat.le_refl _
  | l :: ls, s, hl => by
    have h1 := fold_size ls (stF s l) fun x hx => hl x (List.mem_cons_of_mem _ hx)
    have h2 := stepR_size (t := s.2.1) (b := s.2.2) (hl l List.mem_cons_self)
    have h3 : (stF s l).1.size = s.1.size + (stepR s.2.1 s.2.2 l).1.size + 1 := by
      show (s.1 ++ (stepR s.2.1 s.2.2 l).1 ++ nlB).size = _
      rw [ByteArray.size_append, ByteArray.size_append]; rfl
    rw [List.length_cons]
    show (ls.foldl stF (stF s l)).1.size ≤ _
    omega
theorem ses_inv {ls : List ByteArray} (h : lnOk ls) : sInv (ses ls).2.1 (ses ls).2.2 := fold_inv ls _ h sInv.zero
theorem ses_size {ls : List ByteArray} (h : lnOk ls) : (ses ls).1.size ≤ 701 * ls.length := by
  have := fold_size ls (ByteArray.empty, noT, false) h
  have e : ByteArray.empty.size = 0 := rfl
  unfold ses
  dsimp only at this
  omega
theorem lnOk.take {ls : List ByteArray} (h : lnOk ls) (n : Nat) : lnOk (ls.take n) := fun l hl => h l (List.mem_of_mem_take hl)
section
variable {N : Nat} (hN : 100000000 ≤ N)
include hN
theorem sesI {ls : List ByteArray} (h : lnOk ls) : m_I_RunSession N ls = some (ses (ls.take 24)).1 := by
  refine ok.val ?_
  unfold m_I_RunSession
  have e1 : V.subM ls (0 : Int) (min (ls.length : Int) (24 : Int)) = some (ls.take 24) := by
    rw [subM_eq (by omega)]
    show some (List.take _ (List.drop 0 ls)) = _
    rw [List.drop_zero]
    rcases Nat.lt_or_ge ls.length 24 with hl | hl
    · have e : (min (ls.length : Int) 24).toNat - (0 : Int).toNat = ls.length := by
        show _ - 0 = _; omega
      rw [e, List.take_length, List.take_of_length_le (by omega)]
    · have e : (min (ls.length : Int) 24).toNat - (0 : Int).toNat = 24 := by
        show _ - 0 = _; omega
      rw [e]
  refine ok.eq e1 ?_
  have hx := h.take 24
  have hxl : (ls.take 24).length ≤ 24 := by rw [List.length_take]; omega
  generalize ls.take 24 = xs at hx hxl
  refine ok.call (P := fun e : Bool × List UInt8 => b2s e.2 = (ses xs).1) (ok.loop (fun x : Int × (List I_Column) × (List I_Change) × (List I_Tagged) × Bool × Bool × (List UInt8) => ∃ i : Nat, x.1 = (i : Int) ∧ i ≤ xs.length ∧ (⟨x.2.1, x.2.2.1, x.2.2.2.1⟩ : I_Table) = (ses (xs.take i)).2.1 ∧ x.2.2.2.2.1 = (ses (xs.take i)).2.2 ∧ x.2.2.2.2.2.2 = bytesL (ses (xs.take i)).1) (fun x => (xs.length - x.1).toNat) _ ?_ N _ ⟨0, rfl, Nat.zero_le _, rfl, rfl, rfl⟩ (by show ((xs.length : Int) - 0).toNat < N; omega)) ?_
  · rintro ⟨x1, f, c, r, b, g, v⟩ ⟨i, h1, hi, h2, h3, h4⟩
    dsimp only at h1 h2 h3 h4 ⊢
    subst h1
    unfold m_I_RunSession_b1
    refine ok.ite (fun hc => ?_) fun hc => ?_
    · have hlt : i < xs.length := by omega
      have hinv := ses_inv (hx.take i)
      have hs := ses_size (hx.take i)
      have hlen : (xs.take i).length = i := by rw [List.length_take]; omega
      have hln := hx xs[i] (List.getElem_mem _)
      have hst := stepR_size (t := (ses (xs.take i)).2.1) (b := (ses (xs.take i)).2.2) hln
      refine ok.eq (ixI_nat hlt) ?_
      rw [h2, h3, h4]
      have hL := bytesL_len (stepR (ses (xs.take i)).2.1 (ses (xs.take i)).2.2 xs[i]).1
      have hL2 := bytesL_len (ses (xs.take i)).1
      refine ok.eq (runI hN hinv hln) ?_
      dsimp only
      refine ok.app (by omega) (ok.app (by simp; omega) (ok.chk (by omega) (ok.some ?_)))
      refine ⟨⟨i + 1, rfl, hlt, ?_, ?_, ?_⟩, by show ((xs.length : Int) - ((i : Int) + 1)).toNat < ((xs.length : Int) - (i : Int)).toNat; omega⟩
      · rw [take_succ1 hlt, ses_snoc]; rfl
      · rw [take_succ1 hlt, ses_snoc]; rfl
      · rw [take_succ1 hlt, ses_snoc]
        show _ = bytesL ((ses (xs.take i)).1 ++ (stepR (ses (xs.take i)).2.1 (ses (xs.take i)).2.2 xs[i]).1 ++ nlB)
        rw [bytesL_app, bytesL_app]; rfl
    · obtain rfl : i = xs.length := by omega
      refine ok.some ?_
      show b2s v = _
      rw [h4, b2s_bytesL, List.take_length]
  · intro e he
    unfold m_I_RunSession_k1
    exact ok.some he
theorem sesS {ls : List ByteArray} (h : lnOk ls) : m_S_RunSession N ls = some (ses (ls.take 24)).1 := by
  refine ok.val ?_
  unfold m_S_RunSession
  have hx := h.take 24
  have hxl : (ls.take 24).length ≤ 24 := by rw [List.length_take]; omega
  have hxl' : (ls.take 24).length = min 24 ls.length := List.length_take
  generalize hxs : ls.take 24 = xs at hx hxl hxl'
  refine ok.call (P := fun e : ByteArray => e = (ses xs).1) (ok.loop (fun x : ByteArray × Int × (List I_Column) × (List I_Change) × (List I_Tagged) => ∃ i : Nat, x.2.1 = (i : Int) ∧ i ≤ xs.length ∧ (⟨x.2.2.1, x.2.2.2.1, x.2.2.2.2⟩ : I_Table) = (ses (xs.take i)).2.1 ∧ x.1 = (ses (xs.take i)).1) (fun x => (xs.length - x.2.1).toNat) _ ?_ N _ ⟨0, rfl, Nat.zero_le _, rfl, rfl⟩ (by show ((xs.length : Int) - 0).toNat < N; omega)) ?_
  · rintro ⟨o, x1, f, c, r⟩ ⟨i, h1, hi, h2, h4⟩
    dsimp only at h1 h2 h4 ⊢
    subst h1; subst h4
    unfold m_S_RunSession_b1
    refine ok.ite (fun hc => ok.ite (fun hc2 => ?_) fun hc2 => ?_) fun hc => ?_
    · have hlt : i < xs.length := by omega
      have hlt' : i < ls.length := by omega
      have hinv := ses_inv (hx.take i)
      have hs := ses_size (hx.take i)
      have hlen : (xs.take i).length = i := by rw [List.length_take]; omega
      have hln := hx xs[i] (List.getElem_mem _)
      have hst := stepR_size (t := (ses (xs.take i)).2.1) (b := (ses (xs.take i)).2.2) hln
      have hg : ls[i] = xs[i] := by subst hxs; rw [List.getElem_take]
      refine ok.eq (ixI_nat hlt') ?_
      rw [h2, hg]
      have en : nlB.size = 1 := rfl
      refine ok.eq (lineS hN hinv hln) ?_
      dsimp only
      refine ok.eq (addS_eq (by omega)) (ok.eq (addS_eq (by rw [ByteArray.size_append, en]; omega)) (ok.chk (by omega) (ok.some ?_)))
      refine ⟨⟨i + 1, rfl, hlt, ?_, ?_⟩, by show ((xs.length : Int) - ((i : Int) + 1)).toNat < ((xs.length : Int) - (i : Int)).toNat; omega⟩
      · rw [take_succ1 hlt, ses_snoc]; rfl
      · rw [take_succ1 hlt, ses_snoc]; rfl
    · obtain rfl : i = xs.length := by omega
      refine ok.some ?_
      dsimp only
      rw [List.take_length]
    · obtain rfl : i = xs.length := by omega
      refine ok.some ?_
      dsimp only
      rw [List.take_length]
  · rintro e rfl
    exact ok.some rfl
end
end V
end Go.Proofs.YtemmcidmcojjjaaGreatDoor
namespace Go.Proofs.YtemmcidmcojjjaaGreatDoor
namespace V
section
variable {α : Type} (mk : α → Int → α) (c : α → Nat)
end
end V
end Go.Proofs.YtemmcidmcojjjaaGreatDoor
namespace Go.Proofs.YtemmcidmcojjjaaGreatDoor
namespace V
theorem pick_ok (N : Nat) {r : S_reader} {n : Int} (h : r.b.length ≤ 4000000000) (h0 : 0 ≤ r.p ∧ r.p ≤ 2000000000) (hn : n ≤ 4000000000) : ok (m_S_reader_pick N r n) fun x => x.2 = ⟨r.b, r.p + 1⟩ ∧ 0 ≤ x.1 ∧ (x.1 < n ∨ x.1 = 0) := by
  unfold m_S_reader_pick
  have hb : ∀ u : UInt8, (0 : Int) ≤ (u.toNat : Int) ∧ (u.toNat : Int) ≤ 255 := fun u => by have := u.toNat_lt; omega
  repeat' (first | (with_reducible refine ok.some ?_) | ((with_reducible refine ok.ix (by omega) (by omega) (fun q hq he => ?_); have := hb (r.b[q]); generalize (r.b[q].toNat : Int) = u at *)) | ((with_reducible refine ok.xorM (by omega) (fun _ hq => ?_))) | (with_reducible refine ok.ite (fun hc => ?_) (fun hc => ?_)) | (with_reducible refine ok.cond (fun hc => ?_) (fun hc => ?_)) | (with_reducible refine ok.chk (by omega) ?_) | (with_reducible refine ok.bs ?_) | (with_reducible refine ok.remM (by omega) (fun _ hq => ?_)) | (with_reducible refine ok.quoM (by omega) (fun _ hq => ?_)) | (with_reducible refine ok.ix (by omega) (by omega) (fun q hq he => ?_)))
  all_goals (first | exact ⟨rfl, Int.le_refl _, .inr rfl⟩ | exact ⟨rfl, by omega, by omega⟩)
theorem newReader_ok (N : Nat) (l : List UInt8) : ok (m_S_newReader N l) fun r => r.b.length ≤ 2000 ∧ r.p = 0 := by
  unfold m_S_newReader
  repeat' (first | (with_reducible refine ok.some ?_) | ((rw [subM_eq (by omega)]; refine ok.some ?_)) | (with_reducible refine ok.ite (fun hc => ?_) (fun hc => ?_)) | (with_reducible refine ok.cond (fun hc => ?_) (fun hc => ?_)) | (with_reducible refine ok.chk (by omega) ?_) | (with_reducible refine ok.bs ?_) | (with_reducible refine ok.remM (by omega) (fun _ hq => ?_)) | (with_reducible refine ok.quoM (by omega) (fun _ hq => ?_)) | (with_reducible refine ok.ix (by omega) (by omega) (fun q hq he => ?_)))
  · exact ⟨by simp; omega, rfl⟩
  · exact ⟨by show l.length ≤ 2000; omega, rfl⟩
theorem one_ok (N : Nat) {r : S_reader} {l : List Int} (h : r.b.length ≤ 4000000000) (h0 : 0 ≤ r.p ∧ r.p ≤ 2000000000) (hl : 0 < l.length) (hl' : l.length ≤ 1000) : ok (m_S_reader_one N r l) fun x => x.2 = ⟨r.b, r.p + 1⟩ ∧ x.1 ∈ l := by
  unfold m_S_reader_one
  refine ok.call (pick_ok N h h0 (by omega)) ?_
  rintro x ⟨h1, h2, h3⟩
  repeat' (first | (with_reducible refine ok.some ?_) | (with_reducible refine ok.ite (fun hc => ?_) (fun hc => ?_)) | (with_reducible refine ok.cond (fun hc => ?_) (fun hc => ?_)) | (with_reducible refine ok.chk (by omega) ?_) | (with_reducible refine ok.bs ?_) | (with_reducible refine ok.remM (by omega) (fun _ hq => ?_)) | (with_reducible refine ok.quoM (by omega) (fun _ hq => ?_)) | (with_reducible refine ok.ix (by omega) (by omega) (fun q hq he => ?_)))
  exact ⟨h1, List.getElem_mem _⟩
theorem of_ok (N : Nat) {r : S_reader} {l : List ByteArray} (h : r.b.length ≤ 4000000000) (h0 : 0 ≤ r.p ∧ r.p ≤ 2000000000) (hl : 0 < l.length) (hl' : l.length ≤ 1000) : ok (m_S_reader_of N r l) fun x => x.2 = ⟨r.b, r.p + 1⟩ ∧ x.1 ∈ l := by
  unfold m_S_reader_of
  refine ok.call (pick_ok N h h0 (by omega)) ?_
  rintro x ⟨h1, h2, h3⟩
  repeat' (first | (with_reducible refine ok.some ?_) | (with_reducible refine ok.ite (fun hc => ?_) (fun hc => ?_)) | (with_reducible refine ok.cond (fun hc => ?_) (fun hc => ?_)) | (with_reducible refine ok.chk (by omega) ?_) | (with_reducible refine ok.bs ?_) | (with_reducible refine ok.remM (by omega) (fun _ hq => ?_)) | (with_reducible refine ok.quoM (by omega) (fun _ hq => ?_)) | (with_reducible refine ok.ix (by omega) (by omega) (fun q hq he => ?_)))
  exact ⟨h1, List.getElem_mem _⟩
end V
end Go.Proofs.YtemmcidmcojjjaaGreatDoor
namespace Go.Proofs.YtemmcidmcojjjaaGreatDoor
namespace V
open Enc (enc)
open Go.RowKit Go.ChangeShapes Go.WideShapes Go.ChangeAt
def TL (w : World) (U : Nat → Prop) (cs : List Tr) (ys : List Value) : Prop :=
  ys.length = cs.length ∧ (∀ y, y ∈ ys → y.oneCell' = true) ∧ ∀ (j : Nat) c y, cs[j]? = some c → ys[j]? = some y → TRel w U c y
theorem TL.nil {w : World} {U : Nat → Prop} : TL w U [] [] := ⟨rfl, fun y h => (List.not_mem_nil h).elim, fun j c y h => by simp at h⟩
theorem TL.app {w : World} {U : Nat → Prop} {cs ds : List Tr} {ys zs : List Value} (h1 : TL w U cs ys) (h2 : TL w U ds zs) : TL w U (cs ++ ds) (ys ++ zs) := by
  refine ⟨by simp [h1.1, h2.1], fun y h => (List.mem_append.1 h).elim (h1.2.1 y) (h2.2.1 y), fun j c y hc hy => ?_⟩
  rcases Nat.lt_or_ge j cs.length with hj | hj
  · rw [List.getElem?_append_left hj] at hc
    rw [List.getElem?_append_left (by rw [h1.1]; exact hj)] at hy
    exact h1.2.2 j c y hc hy
  · rw [List.getElem?_append_right hj] at hc
    rw [List.getElem?_append_right (by rw [h1.1]; exact hj), h1.1] at hy
    exact h2.2.2 _ c y hc hy
theorem TL.one {w : World} {U : Nat → Prop} {c : Tr} {y : Value} (h1 : y.oneCell' = true) (h : TRel w U c y) : TL w U [c] [y] := by
  refine ⟨rfl, fun z hz => by simp at hz; subst hz; exact h1, fun j d z hc hz => ?_⟩
  cases j with
  | zero => simp at hc hz; subst hc hz; exact h
  | succ j => simp at hc
class Szd (α : Type) where szd : α → Prop
open Szd (szd)
instance : Szd Int := ⟨fun n => -9223372036854775808 ≤ n ∧ n ≤ 9223372036854775807⟩
instance : Szd Bool := ⟨fun _ => True⟩
instance : Szd UInt8 := ⟨fun _ => True⟩
instance : Szd ByteArray := ⟨fun s => s.size ≤ 9223372036854775807⟩
instance {α : Type} [Szd α] : Szd (List α) := ⟨fun xs => xs.length ≤ 9223372036854775807 ∧ ∀ x ∈ xs, szd x⟩
class Opn (P : Program) (α : Type) [Enc α] [Szd α] (t : TypeId) : Prop where
  opn : ∀ {H : Type} {en : TypeId × Value → H} {W : World} {fuel : Nat} {cs : List Value} {x : DataW H × List MemPlace}, DataW.trod en P W 0 (fun _ => true) true fuel t cs = some x → ∃ a : α, TL W (· < W.heap.size) (enc a) cs ∧ szd a
section
variable {P : Program} {t : TypeId}
theorem Opn.u8 (ht : P.underlying t = some (.int .u8)) : Opn P UInt8 t := ⟨fun h => by
  obtain ⟨n, rfl, rfl, hw⟩ := DataW.trod_int ht h
  have hn : 0 ≤ n ∧ n ≤ 255 := by simpa [Lit.wf, IntKind.min, IntKind.max, IntKind.signed, IntKind.bits] using hw
  obtain ⟨k, rfl⟩ := Int.eq_ofNat_of_zero_le hn.1
  refine ⟨UInt8.ofNat k, TL.one rfl ?_, trivial⟩
  have : (UInt8.ofNat k).toNat = k := UInt8.toNat_ofNat_of_lt' (by show k < 256; omega)
  rw [this]; exact .v _ rfl⟩
theorem Opn.str (ht : P.underlying t = some .string) : Opn P ByteArray t := ⟨fun h => by
  obtain ⟨n, rfl, rfl, hw⟩ := DataW.trod_string ht h
  exact ⟨n, TL.one rfl (.v _ rfl), hw⟩⟩
theorem spot_none {w : World} {a : Addr} {v : Value} (h : w.cell? a = some v) : a.spot = none := by
  unfold World.cell? at h
  split at h
  · split at h
    · cases h
    · simpa using ‹¬ a.spot.isSome = true›
  · cases h
theorem cell_lt {w : World} {a : Addr} {v : Value} (h : w.cell? a = some v) : a.block < w.heap.size := by
  unfold World.cell? at h
  split at h
  · rename_i hq
    exact (Array.getElem?_eq_some_iff.1 hq).1
  · cases h
theorem addr_add' {B o j : Nat} : Addr.add ⟨B, o, none⟩ j = ⟨B, o + j, none⟩ := by unfold Addr.add; split <;> simp_all
theorem addr_add2 (a : Addr) (i j : Nat) : (a.add i).add j = a.add (i + j) := by unfold Addr.add; by_cases hi : i = 0 <;> by_cases hj : j = 0 <;> simp [hi, hj, Nat.add_assoc]
theorem Opn.sl {α : Type} [F : Enc α] [Szd α] {e : TypeId} (ht : P.underlying t = some (.slice e)) (hc : P.cellsOf e = F.k) (hpos : 0 < F.k) [E : Opn P α e] : Opn P (List α) t := ⟨fun {H en W fuel cs x} h => by
  rcases Go.Deep.open_slice ht h with ⟨rfl, rfl⟩ | ⟨a, len, cap, m, n, D, Pl, rfl, _, hl, hm, hmm, rfl, hel⟩
  · exact ⟨[], TL.one rfl .nil, by simp, fun x hx => by cases hx⟩
  · simp only [if_pos] at hmm
    have hm' : cap ≤ 9223372036854775807 := hm
    -- the elements, one by one
    have key : ∀ k, k ≤ len → ∃ (xs : List α) (ys : List Value), xs.length = k ∧ TL W (· < W.heap.size) (eL xs) ys ∧ (∀ x ∈ xs, szd x) ∧ ∀ (j : Nat) y, ys[j]? = some y → W.cell? (a.add j) = some y := by
      intro k
      induction k with
      | zero => intro _; exact ⟨[], [], rfl, TL.nil, fun x hx => (List.not_mem_nil hx).elim, fun j y hy => (by simp at hy)⟩
      | succ k ih =>
        intro hk
        obtain ⟨xs, ys, h1, h2, h3, h4⟩ := ih (by omega)
        obtain ⟨cs', h5, h6⟩ := hel k (by omega)
        obtain ⟨x, h7, h8⟩ := E.opn h6
        obtain ⟨_, hcl, hcg⟩ := World.cells?_some h5
        have hyl : ys.length = k * F.k := by rw [h2.1, eL_len, h1]
        refine ⟨xs ++ [x], ys ++ cs', by simp [h1], ?_, fun y hy => ?_, fun j y hy => ?_⟩
        · rw [eL_app, eL_one]; exact h2.app h7
        · rcases List.mem_append.1 hy with hy | hy
          · exact h3 y hy
          · simp at hy; subst hy; exact h8
        · rcases Nat.lt_or_ge j ys.length with hj | hj
          · rw [List.getElem?_append_left hj] at hy; exact h4 j y hy
          · rw [List.getElem?_append_right hj] at hy
            have hjl := (List.getElem?_eq_some_iff.1 hy).1
            have := hcg (j - ys.length) (by omega)
            rw [hy, hyl] at this
            rw [addr_add2, hc] at this
            rw [← this]
            congr 2; omega
    obtain ⟨xs, ys, h1, h2, h3, h4⟩ := key len (Nat.le_refl _)
    subst h1
    refine ⟨xs, ?_, by show xs.length ≤ 9223372036854775807; omega, h3⟩
    by_cases h0 : xs.length = 0
    · obtain rfl := List.eq_nil_of_length_eq_zero h0
      exact TL.one rfl (.sl0 _ _)
    · have hne : 0 < ys.length := by rw [h2.1, eL_len]; exact Nat.mul_pos (by omega) hpos
      have c0 := h4 0 _ (List.getElem?_eq_getElem hne)
      have hsp : a.spot = none := spot_none (by simpa [Addr.add] using c0)
      have hb := cell_lt c0
      obtain ⟨B, o, s⟩ := a
      simp only at hsp; subst hsp
      rw [addr_add'] at hb
      exact TL.one rfl (.sl B o xs.length cap (eL xs) ys hb h2.1 h2.2.1 (fun j y hy => by have := h4 j y hy; rwa [addr_add'] at this) h2.2.2 hl)⟩
theorem Opn.arg {α : Type} [F : Enc α] [Szd α] {H : Type} {en : TypeId × Value → H} {W : World} {v : Value} {d : DataW H} {ps : List MemPlace} (E : Opn P α t) (hk : ∀ a : α, (enc a).length = 1) (hv : v.cells = #[v]) (h : DataW.Trod en P W 0 (fun _ => true) true t v d ps) :
    ∃ a : α, (∀ M, ∀ c, (enc a)[0]? = some c → Rel W (· < W.heap.size) M (.t c) v) ∧ szd a := by
  obtain ⟨fuel, hf⟩ := h
  rw [hv] at hf
  obtain ⟨a, h1, h2⟩ := E.opn hf
  exact ⟨a, fun M c hc => .t _ _ (h1.2.2 0 c v hc rfl), h2⟩
theorem args1 {w : World} {U : Nat → Prop} {M : Mp} {a : AV} {y : Value} (h : Rel w U M a y) : ArgsRel w U M [a] [y] :=
  ⟨rfl, fun i c z hc hz => by
    match i with
    | 0 => cases hc; cases hz; exact h
    | i + 1 => simp at hc⟩
theorem own : ownKnob Tryz.prog.godebug = none := by kernel_rfl
theorem laidOut : laidOutB Tryz.prog = true := by kernel_rfl
theorem law_run {f : FuncId} {args : List AV} {av : List Value} {W : World} (ht : TabOk W (· < W.heap.size)) (hc : FnX P f [] args (RE (bA true) [])) (ha : ArgsRel W (· < W.heap.size) [] args av) : Calls P f av.toArray W fun e W' => e = .returned (.bool true) ∧ Below W.heap.size W W' := by
  have := hc ⟨W, [], (· < W.heap.size)⟩ (· < W.heap.size) av ?_ (fun B h => h) ha
  · refine this.mono ?_
    rintro e w' ⟨v, r, bl, M', U', rfl, ⟨rfl, rfl⟩, h3, h4⟩
    cases h3 with | t _ _ h =>
    cases h
    refine ⟨rfl, ?_⟩
    exact h4.base.below
  · have hno : ∀ B, ¬ InM [] B := fun B ⟨b, p, h, _⟩ => by simp at h
    exact ⟨BelowX.refl _ _, fun b x h => by simp at h, rfl, fun B h => (hno B h).elim, fun B h => (hno B h).elim, fun b b' p p' B h => by simp at h, fun f F h => by simp at h, fun b ob x h => by simp at h, fun B h => ⟨⟨h, hno B⟩, .inl h⟩, ht⟩
end
end V
end Go.Proofs.YtemmcidmcojjjaaGreatDoor
namespace Go.Proofs.YtemmcidmcojjjaaGreatDoor
namespace V
set_option maxHeartbeats 1000000
open Szd (szd)
theorem app_size (p u : ByteArray) : (p ++ u).size = p.size + u.size := ByteArray.size_append
theorem subS_pre (p u : ByteArray) : subS (p ++ u) (0 : Int) (p.size : Int) = some p := by
  have h := subS_list (s := p ++ u) (a := 0) (b := p.size) ⟨Nat.zero_le _, by rw [app_size]; omega⟩
  refine Eq.trans h ?_
  rw [bytesL_app, List.drop_zero, List.take_append_of_le_length (by rw [bytesL_len]; exact Nat.le_refl _), List.take_of_length_le (by rw [bytesL_len]; exact Nat.le_refl _), b2s_bytesL]
theorem subS_suf (p u : ByteArray) : subS (p ++ u) (p.size : Int) ((p ++ u).size : Int) = some u := by
  have h := subS_list (s := p ++ u) (a := p.size) (b := (p ++ u).size) ⟨by rw [app_size]; omega, Nat.le_refl _⟩
  refine Eq.trans h ?_
  rw [List.take_of_length_le (by rw [bytesL_len]; exact Nat.le_refl _), bytesL_app, List.drop_append_of_le_length (by rw [bytesL_len]; exact Nat.le_refl _), List.drop_of_length_le (by rw [bytesL_len]; exact Nat.le_refl _), List.nil_append, b2s_bytesL]
theorem rwT_rows2 {t : I_Table} (h : tV t) (n : Nat) : tR (rwT t n) = tR t := by
  unfold tR
  rw [if_pos h, if_pos (rwT_v h n)]
  show (rwL (oldB t) (toL t) n t.rows).map (adv t) = _
  rw [rwL_map _ _ _ (toL_adv t)]
section
variable {N : Nat} (hN : 100000000 ≤ N)
include hN
omit hN in
theorem mutate_ok (N : Nat) {r : S_reader} {s : ByteArray} (h : r.b.length ≤ 2000) (h0 : 0 ≤ r.p ∧ r.p ≤ 1000) (hs : s.size ≤ 100) : ok (m_S_mutate N r s) fun x => x.1.size ≤ 300 := by
  unfold m_S_mutate
  refine ok.chk (by omega) (ok.call (pick_ok N (r := r) (n := (s.size : Int) + 1) (by omega) (by omega) (by omega)) ?_)
  rintro ⟨a, r1⟩ ⟨e1, ha0, ha1⟩
  dsimp only at e1 ha0 ha1 ⊢
  subst e1
  refine ok.call (pick_ok N (r := ⟨r.b, r.p + 1⟩) (n := 5) (by show r.b.length ≤ _; omega) (by show 0 ≤ r.p + 1 ∧ r.p + 1 ≤ _; omega) (by omega)) ?_
  rintro ⟨c, r2⟩ ⟨e2, hc0, hc1⟩
  dsimp only at e2 hc0 hc1 ⊢
  subst e2
  obtain ⟨m, rfl⟩ := Int.eq_ofNat_of_zero_le ha0
  have hm : m ≤ s.size := by omega
  have hlen : ∀ (l : List ByteArray), l.length ≤ 1000 → 0 < l.length → (∀ x ∈ l, x.size ≤ 10) → ok (m_S_reader_of N ⟨r.b, r.p + 1 + 1⟩ l) fun x => x.1.size ≤ 10 := fun l h1 h2 h3 => (of_ok N (by show r.b.length ≤ _; omega) (by show 0 ≤ r.p + 1 + 1 ∧ r.p + 1 + 1 ≤ _; omega) h2 h1).mono fun x hx => h3 x.1 hx.2
  have sub0 : subS s (0 : Int) (m : Int) = some (b2s ((bytesL s).take m)) := subS_list (a := 0) (b := m) ⟨Nat.zero_le _, hm⟩
  have sz0 : (b2s ((bytesL s).take m)).size ≤ 100 := by rw [b2s_data, List.length_take, bytesL_len]; omega
  refine ok.ite (fun q0 => ok.ite (fun q1 => ?_) fun q1 => ok.some (by show s.size ≤ 300; omega)) fun q0 => ok.ite (fun q1 => ?_) fun q1 => ok.ite (fun q2 => ?_) fun q2 => ok.some (by show s.size ≤ 300; omega)
  · refine ok.eq sub0 (ok.call (hlen _ (by decide) (by decide) (by decide)) ?_)
    rintro ⟨x, r3⟩ hx
    dsimp only at hx ⊢
    have sub1 : subS s (((m + 1 : Nat) : Int)) (s.size : Int) = some (b2s (((bytesL s).take s.size).drop (m + 1))) := subS_list (a := m + 1) (b := s.size) ⟨by omega, Nat.le_refl _⟩
    have sz1 : (b2s (((bytesL s).take s.size).drop (m + 1))).size ≤ 100 := by rw [b2s_data, List.length_drop, List.length_take, bytesL_len]; omega
    refine ok.eq (addS_eq (by omega)) (ok.chk (by omega) (ok.eq sub1 (ok.eq (addS_eq (by rw [app_size]; omega)) (ok.some ?_))))
    show (_ ++ _ ++ _ : ByteArray).size ≤ 300
    rw [app_size, app_size]; omega
  · exact ok.eq sub0 (ok.some (by show (b2s ((bytesL s).take m)).size ≤ 300; omega))
  · refine ok.call (hlen _ (by decide) (by decide) (by decide)) ?_
    rintro ⟨x, r3⟩ hx
    dsimp only at hx ⊢
    refine ok.eq (addS_eq (by omega)) (ok.some ?_)
    show (_ ++ _ : ByteArray).size ≤ 300
    rw [app_size]; omega
theorem drawSes_ok (l : List UInt8) : ok (m_S_DrawRunSession N l) fun ls => lnOk ls ∧ ls.length ≤ 100 := by
  unfold m_S_DrawRunSession
  refine ok.call (newReader_ok N l) ?_
  rintro ⟨b, p⟩ ⟨hb, hp⟩
  dsimp only at hb hp
  subst hp
  refine ok.call (of_ok N (r := ⟨b, 0⟩) (by show b.length ≤ _; omega) (by show (0 : Int) ≤ 0 ∧ (0 : Int) ≤ _; omega) (by decide) (by decide)) ?_
  rintro ⟨x, r3⟩ ⟨e3, hx⟩
  dsimp only at e3 hx ⊢
  subst e3
  have hx' : x.size ≤ 100 := (by decide : ∀ y ∈ ([(ByteArray.mk #[116, 97, 98, 108, 101, 32, 110, 117, 109, 32, 116, 101, 120, 116]), (ByteArray.mk #[116, 97, 98, 108, 101, 32, 110, 117, 109]), (ByteArray.mk #[116, 97, 98, 108, 101, 32, 116, 101, 120, 116, 32, 110, 117, 109, 32, 110, 117, 109]), (ByteArray.mk #[114, 111, 119, 115]), (ByteArray.mk #[116, 97, 98, 108, 101, 32, 100, 97, 116, 101])] : List ByteArray), y.size ≤ 100) x hx
  refine ok.call (one_ok N (r := ⟨b, 0 + 1⟩) (by show b.length ≤ _; omega) (by show (0 : Int) ≤ 0 + 1 ∧ (0 : Int) + 1 ≤ _; omega) (by decide) (by decide)) ?_
  rintro ⟨k, r5⟩ ⟨e5, hk⟩
  dsimp only at e5 hk ⊢
  subst e5
  have hk' : 0 ≤ k ∧ k ≤ 14 := (by decide : ∀ y ∈ ([6, 10, 14, 3, 0] : List Int), 0 ≤ y ∧ y ≤ 14) k hk
  refine ok.call (P := fun e : List UInt8 × Int × List ByteArray => e.1 = b ∧ 0 ≤ e.2.1 ∧ e.2.1 ≤ 100 ∧ 0 < e.2.2.length ∧ e.2.2.length ≤ 50 ∧ ∀ y ∈ e.2.2, y.size ≤ 100) (ok.loop (fun s : Int × List UInt8 × Int × List ByteArray => 0 ≤ s.1 ∧ s.1 ≤ 14 ∧ s.2.1 = b ∧ 0 ≤ s.2.2.1 ∧ s.2.2.1 ≤ 20 - s.1 ∧ 0 < s.2.2.2.length ∧ (s.2.2.2.length : Int) ≤ 20 - s.1 ∧ ∀ y ∈ s.2.2.2, y.size ≤ 100) (fun s => s.1.toNat) _ ?_ N _ ⟨hk'.1, hk'.2, rfl, by show (0 : Int) ≤ 0 + 1 + 1; omega, by show (0 : Int) + 1 + 1 ≤ 20 - k; omega, Nat.zero_lt_one, by show (1 : Int) ≤ 20 - k; omega, fun y hy => by rw [List.mem_singleton.1 hy]; exact hx'⟩ (by show k.toNat < N; omega)) ?_
  · rintro ⟨k, b', p, ls⟩ ⟨h0, h1, e, h2, h3, h4, h5, h6⟩
    dsimp only at h0 h1 e h2 h3 h4 h5 h6 ⊢
    subst e
    unfold m_S_DrawRunSession_b1
    refine ok.ite (fun hc => ?_) fun hc => ok.some ⟨rfl, h2, by show p ≤ 100; omega, h4, by show ls.length ≤ 50; omega, h6⟩
    refine ok.call (of_ok N (r := ⟨b', p⟩) (by show b'.length ≤ _; omega) (by show 0 ≤ p ∧ p ≤ _; omega) (by decide) (by decide)) ?_
    rintro ⟨y, r7⟩ ⟨e7, hy⟩
    dsimp only at e7 hy ⊢
    subst e7
    have hy' : y.size ≤ 100 := by
      revert y
      decide
    refine ok.app (by simp; omega) (ok.chk (by omega) (ok.some ⟨⟨by show 0 ≤ k - 1; omega, by show k - 1 ≤ 14; omega, rfl, by show 0 ≤ p + 1; omega, by show p + 1 ≤ 20 - (k - 1); omega, by simp, by simp; omega, fun z hz => ?_⟩, by show (k - 1).toNat < k.toNat; omega⟩))
    rcases List.mem_append.1 hz with hz | hz
    · exact h6 z hz
    · rw [List.mem_singleton.1 hz]; exact hy'
  · rintro ⟨b', p, ls⟩ ⟨e, h2, h3, h4, h5, h6⟩
    dsimp only at e h2 h3 h4 h5 h6 ⊢
    subst e
    unfold m_S_DrawRunSession_k1
    have hall : lnOk ls := fun y hy => by have := h6 y hy; omega
    refine ok.call (pick_ok N (r := ⟨b', p⟩) (n := 6) (by show b'.length ≤ _; omega) (by show 0 ≤ p ∧ p ≤ _; omega) (by omega)) ?_
    rintro ⟨c, r7⟩ ⟨e7, hc0, hc1⟩
    dsimp only at e7 hc0 hc1 ⊢
    subst e7
    refine ok.ite (fun hc => ?_) fun hc => ok.some ⟨hall, by omega⟩
    refine ok.call (pick_ok N (r := ⟨b', p + 1⟩) (n := (ls.length : Int)) (by show b'.length ≤ _; omega) (by show 0 ≤ p + 1 ∧ p + 1 ≤ _; omega) (by omega)) ?_
    rintro ⟨d, r8⟩ ⟨e8, hd0, hd1⟩
    dsimp only at e8 hd0 hd1 ⊢
    subst e8
    obtain ⟨m, rfl⟩ := Int.eq_ofNat_of_zero_le hd0
    have hm : m < ls.length := by omega
    refine ok.eq (ixI_nat hm) (ok.call (mutate_ok N (r := ⟨b', p + 1 + 1⟩) (by show b'.length ≤ _; omega) (by show 0 ≤ p + 1 + 1 ∧ p + 1 + 1 ≤ _; omega) (h6 _ (List.getElem_mem _))) ?_)
    rintro ⟨z, r9⟩ hz
    dsimp only at hz ⊢
    refine ok.some ⟨fun y hy => ?_, by rw [List.length_set]; omega⟩
    rcases List.mem_or_eq_of_mem_set hy with hy | rfl
    · exact hall y hy
    · omega
omit hN in
theorem step_rows (t : I_Table) (b : Bool) : stepR t b wRows = (rowsB (tR t), t, b) := by
  have e : wordsB wRows = [wRows] := by decide
  unfold stepR
  rw [e]
  simp [stepW]
abbrev wRew5 : ByteArray := ⟨#[114, 101, 119, 114, 105, 116, 101, 32, 53]⟩
omit hN in
theorem step_rew (t : I_Table) (b : Bool) : ∃ o t' b', stepR t b wRew5 = (o, t', b') ∧ tR t' = tR t := by
  have e : wordsB wRew5 = [wRewrite, ⟨#[53]⟩] := by decide
  have hs : stepR t b wRew5 = finQ (reQ t b (pNum ⟨#[53]⟩)) := by
    unfold stepR
    rw [e]
    have h : ¬ wRewrite = wTable := by decide
    have h' : ¬ wRewrite = wDrop := by decide
    have h2 : ¬ wRewrite = wWiden := by decide
    have h3 : ¬ wRewrite = wInsert := by decide
    simp [stepW, h, h', h2, h3]
  rw [hs]
  refine ⟨_, _, _, rfl, ?_⟩
  unfold reQ
  split
  · rename_i h; exact rwT_rows2 h.1 _
  · rfl
theorem lawFnSessionRewrite (l : List UInt8) (sl : szd l) : m_L_FnSessionRewrite N l = some true := by
  refine ok.val ?_
  unfold m_L_FnSessionRewrite
  refine ok.ite (fun h => ok.some rfl) fun h => ok.call (drawSes_ok hN l) ?_
  rintro ls ⟨hln, hl⟩
  refine ok.eq (sesI hN hln) (ok.eq (sesS hN hln) ?_)
  rw [textEq]
  refine ok.ift rfl (ok.chk (by omega) (ok.ite (fun hc => ?_) fun hc => ?_))
  · refine ok.eq (sesS hN hln) (ok.some ?_)
    rw [textEq]; exact decide_eq_true rfl
  have ht : ls.take 24 = ls := List.take_of_length_le (by omega)
  have hlnA : lnOk (ls ++ [wRows]) := fun y hy => by
    rcases List.mem_append.1 hy with hy | hy
    · exact hln y hy
    · exact (by decide : ∀ y ∈ ([wRows] : List ByteArray), y.size ≤ 1048576) y hy
  have hlnB : lnOk (ls ++ [wRew5, wRows]) := fun y hy => by
    rcases List.mem_append.1 hy with hy | hy
    · exact hln y hy
    · exact (by decide : ∀ y ∈ ([wRew5, wRows] : List ByteArray), y.size ≤ 1048576) y hy
  refine ok.eq (appM0 (by omega)) (ok.app (by simp; omega) (ok.eq (sesI hN hlnA) (ok.eq (appM0 (by omega)) (ok.app (by simp; omega) (ok.eq (sesI hN hlnB) ?_)))))
  have htA : (ls ++ [wRows]).take 24 = ls ++ [wRows] := List.take_of_length_le (by simp; omega)
  have htB : (ls ++ [wRew5, wRows]).take 24 = ls ++ [wRew5, wRows] := List.take_of_length_le (by simp; omega)
  rw [ht, htA, htB]
  have sB := ses_size hlnB
  obtain ⟨X, eA⟩ : ∃ X, X = rowsB (tR (ses ls).2.1) ++ nlB := ⟨_, rfl⟩
  have hA : (ses (ls ++ [wRows])).1 = (ses ls).1 ++ X := by
    rw [ses_snoc]
    unfold stF
    rw [step_rows, eA]
    exact app_assoc3 _ _ _
  obtain ⟨o, t', b', hs, htr⟩ := step_rew (ses ls).2.1 (ses ls).2.2
  have hB : (ses (ls ++ [wRew5, wRows])).1 = (ses ls).1 ++ (o ++ nlB ++ X) := by
    have hf : ses (ls ++ [wRew5, wRows]) = stF (stF (ses ls) wRew5) wRows := by unfold ses; rw [List.foldl_append]; rfl
    rw [hf]
    have h1 : stF (ses ls) wRew5 = ((ses ls).1 ++ o ++ nlB, t', b') := by unfold stF; rw [hs]
    rw [h1]
    unfold stF
    rw [step_rows, htr, eA]
    simp only [app_assoc3]
  rw [hB, app_size] at sB
  have hlB : (ls ++ [wRew5, wRows]).length = ls.length + 2 := by simp
  rw [hA, hB]
  refine ok.iff (by rw [app_size]; omega) (ok.iff (by rw [app_size]; omega) (ok.eq (subS_suf _ _) (ok.eq (subS_suf _ _) ?_)))
  refine ok.ift (by rw [app_size]; omega) (ok.chk (by rw [app_size] at *; omega) ?_)
  have en : ((o ++ nlB ++ X).size : Int) - (X.size : Int) = ((o ++ nlB).size : Int) := by rw [app_size (o ++ nlB) X]; omega
  rw [en]
  refine ok.eq (subS_suf _ _) (ok.some ?_)
  rw [textEq]; exact decide_eq_true rfl
end
end V
end Go.Proofs.YtemmcidmcojjjaaGreatDoor
namespace Go.Proofs.YtemmcidmcojjjaaGreatDoor
namespace V
set_option maxRecDepth 100000
theorem mayEnter_of {P : Program} {c : List Char} {rest : List (List Char)} (h : behindMainWord (wordsSigns P.initOrder.toList) = c :: rest)
    (h1 : ((stripLifts liftWords (c :: rest)).2.head? == some "cut".toList) = true) (h2 : ((stripLifts liftWords (c :: rest)).1.contains "finals" || !P.laysLater) = true)
    (h3 : ((stripLifts liftWords (c :: rest)).1.contains "reflectrows" || !P.bearsReflect) = true) (h4 : ((stripLifts liftWords (c :: rest)).1.contains "reflectrows" || !(stripLifts liftWords (c :: rest)).1.contains "leanrows") = true)
    (h5 : P.doorFits (stripLifts liftWords (c :: rest)).1 = true) : P.mayEnter = true := by
  unfold Program.mayEnter
  rw [h]
  simp only [h1, h2, h3, h4, h5, Bool.and_true, Bool.or_true]
theorem lifted_of {P : Program} {b : Bool} (h : P.liftsFinal = false) (hb : b = false) : (b == P.liftsFinal) = true := by rw [h, hb]; rfl
theorem make_of {P : Program} {m : Make} (h : P.make = some .cut) (hm : m = .cut) : (P.make == some m) = true := by rw [h, hm]; rfl
theorem iniT : Tryz.prog.initOrder = String.ofList (List.map Char.ofNat [104, 97, 114, 110, 101, 115, 115, 32, 55, 102, 102, 99, 55, 49, 57, 55, 52, 98, 98, 49, 100, 57, 50, 48, 98, 48, 52, 99, 101, 101, 50, 51, 53, 56, 99, 48, 54, 99, 53, 51, 57, 99, 55, 101, 52, 99, 57, 55, 98, 49, 102, 48, 54, 101, 48, 51, 48, 102, 101, 54, 99, 51, 101, 98, 50, 55, 97, 57, 57, 51, 55, 101, 32, 99, 117, 116, 32, 97, 116, 32, 108, 111, 111, 112, 46, 101, 120, 97, 109, 112, 108, 101, 47, 115, 99, 104, 101, 109, 97, 109, 105, 103, 114, 97, 116, 105, 111, 110, 47, 108, 97, 119, 115, 46, 70, 110, 83, 101, 115, 115, 105, 111, 110, 82, 101, 119, 114, 105, 116, 101, 32, 108, 111, 111, 112, 46, 101, 120, 97, 109, 112, 108, 101, 47, 115, 99, 104, 101, 109, 97, 109, 105, 103, 114, 97, 116, 105, 111, 110, 47, 108, 97, 119, 115, 46, 70, 110, 69, 120, 97, 99, 116, 82, 117, 110, 83, 101, 115, 115, 105, 111, 110, 32, 108, 111, 111, 112, 46, 101, 120, 97, 109, 112, 108, 101, 47, 115, 99, 104, 101, 109, 97, 109, 105, 103, 114, 97, 116, 105, 111, 110, 47, 108, 97, 119, 115, 46, 70, 110, 83, 101, 115, 115, 105, 111, 110, 78, 101, 119, 32, 108, 111, 111, 112, 46, 101, 120, 97, 109, 112, 108, 101, 47, 115, 99, 104, 101, 109, 97, 109, 105, 103, 114, 97, 116, 105, 111, 110, 47, 108, 97, 119, 115, 46, 70, 110, 83, 101, 115, 115, 105, 111, 110, 80, 114, 101, 102, 105, 120]) := by kernel_rfl
theorem iniW : behindMainWord (wordsSigns Tryz.prog.initOrder.toList) = List.map Char.ofNat [99, 117, 116] :: List.map (List.map Char.ofNat) [[97, 116], [108, 111, 111, 112, 46, 101, 120, 97, 109, 112, 108, 101, 47, 115, 99, 104, 101, 109, 97, 109, 105, 103, 114, 97, 116, 105, 111, 110, 47, 108, 97, 119, 115, 46, 70, 110, 83, 101, 115, 115, 105, 111, 110, 82, 101, 119, 114, 105, 116, 101], [108, 111, 111, 112, 46, 101, 120, 97, 109, 112, 108, 101, 47, 115, 99, 104, 101, 109, 97, 109, 105, 103, 114, 97, 116, 105, 111, 110, 47, 108, 97, 119, 115, 46, 70, 110, 69, 120, 97, 99, 116, 82, 117, 110, 83, 101, 115, 115, 105, 111, 110], [108, 111, 111, 112, 46, 101, 120, 97, 109, 112, 108, 101, 47, 115, 99, 104, 101, 109, 97, 109, 105, 103, 114, 97, 116, 105, 111, 110, 47, 108, 97, 119, 115, 46, 70, 110, 83, 101, 115, 115, 105, 111, 110, 78, 101, 119], [108, 111, 111, 112, 46, 101, 120, 97, 109, 112, 108, 101, 47, 115, 99, 104, 101, 109, 97, 109, 105, 103, 114, 97, 116, 105, 111, 110, 47, 108, 97, 119, 115, 46, 70, 110, 83, 101, 115, 115, 105, 111, 110, 80, 114, 101, 102, 105, 120]] := by rw [iniT, String.toList_ofList]; kernel_rfl
theorem mayE : Tryz.prog.mayEnter = true := mayEnter_of iniW (by kernel_rfl) (by kernel_rfl) (by kernel_rfl) (by kernel_rfl) (by kernel_rfl)
theorem liftE : Tryz.prog.liftsFinal = false := by
  unfold Program.liftsFinal Program.headLifts
  rw [iniW]
  kernel_rfl
theorem make_cut {P : Program} {c : List Char} {rest : List (List Char)} (h : behindMainWord (wordsSigns P.initOrder.toList) = c :: rest) (h1 : (c == "gc".toList || c == "spec".toList) = false) (h2 : (c == "cut".toList || (c == "finals".toList && rest.head? == some "cut".toList)) = true) : P.make = some .cut := by
  unfold Program.make
  rw [h]
  simp only [h1, h2, if_true, Bool.false_eq_true, if_false]
theorem makeE : Tryz.prog.make = some .cut := make_cut iniW (by kernel_rfl) (by kernel_rfl)
end V
end Go.Proofs.YtemmcidmcojjjaaGreatDoor
namespace Go.Proofs.YtemmcidmcojjjaaGreatDoor
namespace V
set_option maxRecDepth 100000
open Go.ChangeShapes Go.WideShapes Go.ChangeAt Go.RowKit
def seatLaid : List (String × DataW Unit) := [("math/bits.deBruijn32tab", Rows.laid_math_bits_deBruijn32tab), ("math/bits.deBruijn64tab", Rows.laid_math_bits_deBruijn64tab), ("internal/strconv.uint64pow10", Rows.laid_internal_strconv_uint64pow10), ("unicode/utf8.acceptRanges", Rows.laid_unicode_utf8_acceptRanges), ("unicode/utf8.first", Rows.laid_unicode_utf8_first)]
theorem laid_met (os : Os) (args : Array Value) : laidMetH Tryz.prog seatLaid ((World.laidAll Tryz.prog os seatLaid).forCall (fun _ _ => 0) ⟨#[], args, []⟩).memory := by
  rw [MakeChecks.laidMetH_plain _ _ _ (by kernel_rfl)]
  exact laidMet_laidAll _ (by kernel_rfl) (by kernel_rfl)
theorem gPow : Tryz.prog.globalNamed "internal/strconv.uint64pow10" = some 3 := by kernel_rfl
theorem tPow : (Tryz.prog.globals[3]?).map (·.type) = some 151 := by kernel_rfl
theorem onePow : (seatLaid.filter fun x => x.1 == "internal/strconv.uint64pow10") = [("internal/strconv.uint64pow10", Lib.tabData .u64 Lib.pow10Tab)] := by kernel_rfl
theorem tabOk_laid {W : World} (h : laidMetH Tryz.prog seatLaid W) : TabOk W (· < W.heap.size) := by
  rw [MakeChecks.laidMetH_plain _ _ _ (by kernel_rfl)] at h
  have h2 := laidMet.filter (fun x => x.1 == "internal/strconv.uint64pow10") h
  rw [onePow] at h2
  have h3 := Lib.tabIs_of_head gPow tPow Tryz.underlying151 Tryz.underlying133 (by kernel_rfl) (by kernel_rfl) h2
  exact ⟨3, gPow, cell_lt (h3.cell gPow 0 (by decide)), h3⟩
end V
end Go.Proofs.YtemmcidmcojjjaaGreatDoor
namespace Go.Proofs.YtemmcidmcojjjaaGreatDoor
namespace V
open Enc (enc)
set_option maxHeartbeats 4000000
set_option maxRecDepth 100000
open Go.RowKit
attribute [local irreducible] thA inA FinA eL
open Szd (szd)
open Go.ChangeShapes Go.WideShapes Go.ChangeAt
instance : Opn Tryz.prog ByteArray 9 := Opn.str Tryz.underlying9
instance : Opn Tryz.prog (List ByteArray) 23 := Opn.sl Tryz.underlying23 (by kernel_rfl) (by decide)
instance : Opn Tryz.prog UInt8 5 := Opn.u8 Tryz.underlying5
instance : Opn Tryz.prog (List UInt8) 22 := Opn.sl Tryz.underlying22 (by kernel_rfl) (by decide)
end V
end Go.Proofs.YtemmcidmcojjjaaGreatDoor
