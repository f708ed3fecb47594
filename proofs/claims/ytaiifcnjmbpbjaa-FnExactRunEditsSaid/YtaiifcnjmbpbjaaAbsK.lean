/- Typed data as trees, and the steps of walks told by them. No condition. -/
import Derived.Test.YtaiifcnjmbpbjaaAbsJ
namespace Go.Proofs.Ytaiifcnjmbpbjaa
namespace V
set_option linter.unusedVariables false
set_option linter.unusedSimpArgs false
open Go.RowKit

class Enc (α : Type) where
  enc : α → List Tr
  k : Nat
  len : ∀ x, (enc x).length = k
open Enc (enc)
class EncF (α : Type) [Enc α] : Prop where
  flat : ∀ (x : α) c, c ∈ enc x → ∃ v, c = .v v
instance : Enc Int := ⟨fun n => [.v (.int .i64 n)], 1, fun _ => rfl⟩
instance : Enc Bool := ⟨fun n => [.v (.bool n)], 1, fun _ => rfl⟩
instance : Enc UInt8 := ⟨fun n => [.v (.int .u8 n.toNat)], 1, fun _ => rfl⟩
instance : Enc ByteArray := ⟨fun n => [.v (.string n)], 1, fun _ => rfl⟩
instance : EncF Int := ⟨fun _ c h => by simp [enc] at h; exact ⟨_, h⟩⟩
instance : EncF Bool := ⟨fun _ c h => by simp [enc] at h; exact ⟨_, h⟩⟩
instance : EncF UInt8 := ⟨fun _ c h => by simp [enc] at h; exact ⟨_, h⟩⟩
instance : EncF ByteArray := ⟨fun _ c h => by simp [enc] at h; exact ⟨_, h⟩⟩
def eL {α : Type} [Enc α] (xs : List α) : List Tr := xs.flatMap enc
instance {α : Type} [Enc α] : Enc (List α) := ⟨fun xs => [.sl xs.length (eL xs)], 1, fun _ => rfl⟩
abbrev sL {α : Type} [Enc α] (xs : List α) : AV := .t (.sl xs.length (eL xs))
section
variable {α : Type} [F : Enc α] {xs ys : List α}
theorem eL_len (xs : List α) : (eL xs).length = xs.length * F.k := by
  induction xs with
  | nil => simp [eL]
  | cons x xs ih => simp only [eL, List.flatMap_cons, List.length_append, List.length_cons] at ih ⊢; rw [ih, F.len, Nat.add_mul]; omega
theorem eL_app (xs ys : List α) : eL (xs ++ ys) = eL xs ++ eL ys := by simp [eL]
theorem eL_one (x : α) : eL [x] = enc x := by simp [eL]
theorem eL_snoc (xs : List α) (x : α) : eL xs ++ enc x = eL (xs ++ [x]) := by rw [eL_app, eL_one]
theorem eL_cons (x : α) (xs : List α) : eL (x :: xs) = enc x ++ eL xs := rfl
theorem eL_get : ∀ {xs : List α} {i f : Nat} (hi : i < xs.length), f < F.k → (eL xs)[i * F.k + f]? = (enc (xs[i]'hi))[f]?
  | x :: xs, 0, f, hi, hf => by
    rw [eL_cons, Nat.zero_mul, Nat.zero_add, List.getElem?_append_left (by rw [F.len]; exact hf)]; rfl
  | x :: xs, i + 1, f, hi, hf => by
    rw [eL_cons, List.getElem?_append_right (by rw [F.len, Nat.add_mul]; omega), F.len, show (i + 1) * F.k + f - F.k = i * F.k + f by rw [Nat.add_mul]; omega]
    exact eL_get (xs := xs) (by simpa using hi) hf
theorem eL_drop (xs : List α) (i : Nat) : (eL xs).drop (i * F.k) = eL (xs.drop i) := by
  induction i generalizing xs with
  | zero => simp
  | succ i ih =>
    cases xs with
    | nil => simp [eL]
    | cons x xs =>
      rw [eL_cons, List.drop_append, F.len, show (i + 1) * F.k - F.k = i * F.k by rw [Nat.add_mul]; omega, List.drop_of_length_le (by rw [F.len, Nat.add_mul]; omega), ih]
      simp
theorem eL_take (xs : List α) (i : Nat) : (eL xs).take (i * F.k) = eL (xs.take i) := by
  induction i generalizing xs with
  | zero => simp [eL]
  | succ i ih =>
    cases xs with
    | nil => simp [eL]
    | cons x xs =>
      rw [eL_cons, List.take_append, F.len, show (i + 1) * F.k - F.k = i * F.k by rw [Nat.add_mul]; omega, List.take_of_length_le (by rw [F.len, Nat.add_mul]; omega), ih]
      simp [eL]
theorem eL_all (xs : List α) : (eL xs).take (xs.length * F.k) = eL xs := List.take_of_length_le (by rw [eL_len]; exact Nat.le_refl _)
theorem eL_setR (x' : α) (i : Nat) (hi : i < xs.length) : (eL xs).take (i * F.k) ++ enc x' ++ (eL xs).drop (i * F.k + F.k) = eL (xs.set i x') := by
  rw [eL_take, show i * F.k + F.k = (i + 1) * F.k by rw [Nat.add_mul]; omega, eL_drop, eL_snoc, ← eL_app, List.set_eq_take_append_cons_drop, if_pos hi]
  simp
theorem eL_setF {u : Tr} {f : Nat} (hf : f < F.k) (x' : α) (i : Nat) (hi : i < xs.length) (hx : enc x' = (enc (xs[i]'hi)).set f u) : (eL xs).take (i * F.k + f) ++ [u] ++ (eL xs).drop (i * F.k + f + 1) = eL (xs.set i x') := by
  rw [← eL_setR x' i hi]
  have hl : i * F.k + F.k ≤ (eL xs).length := by
    rw [eL_len]; have : (i + 1) * F.k ≤ xs.length * F.k := Nat.mul_le_mul_right _ hi
    rw [Nat.add_mul] at this; omega
  apply List.ext_getElem?
  intro j
  simp only [List.getElem?_append, List.getElem?_take, List.getElem?_drop, List.length_append, List.length_take, List.length_cons, List.length_nil]
  have h1 : min (i * F.k + f) (eL xs).length = i * F.k + f := by omega
  have h2 : min (i * F.k) (eL xs).length = i * F.k := by omega
  have h3 : (enc x').length = F.k := F.len _
  rw [h1, h2, h3]
  by_cases c1 : j < i * F.k
  · rw [if_pos (by omega), if_pos (by omega), if_pos (by omega), if_pos (by omega), if_pos (by omega), if_pos c1]
  · by_cases c2 : j < i * F.k + F.k
    · have hg := eL_get (xs := xs) (i := i) (f := j - i * F.k) hi (by omega)
      rw [show i * F.k + (j - i * F.k) = j by omega] at hg
      by_cases c3 : j = i * F.k + f
      · subst c3
        rw [if_pos (by omega), if_neg (by omega), if_pos (by omega), if_neg (by omega), hx]
        rw [show i * F.k + f - (i * F.k + f) = 0 by omega, show i * F.k + f - i * F.k = f by omega, List.getElem?_set_self (by rw [F.len]; exact hf)]
        rfl
      · rw [if_pos (c := j < i * F.k + F.k) (by omega), if_neg (c := j < i * F.k) (by omega), hx, List.getElem?_set_ne (by omega), ← hg]
        by_cases c4 : j < i * F.k + f
        · rw [if_pos (by omega), if_pos c4, if_pos c4]
        · rw [if_neg (by omega)]; congr 1; omega
    · rw [if_neg (by omega), if_neg (by omega)]
      congr 1; omega
end
/-! typed steps -/
section
variable {α : Type} [F : Enc α] {P : Program} {n : Nat} {s : Bs} {Q : APost} {σ : Fr} {O : Obs} {ops : Array Oper} {rest : List Oper} {d : Nat} {ty : TypeId} {pos : String} {after : Array Edge} {xs : List α}
theorem Rd.loadBox {t : TypeId} {x : Operand} {b m k0 : Nat} {cs : List AV} {T' : TypeId} [T : CA P t true] [Z : CS P t m] (hx : evA σ x = .op b 0) (hO : O[b]? = some (some ⟨.mx cs, T', k0⟩)) (hm : cs.length = m) : Rd P s O σ (.load t x) ty (.agg cs) :=
  Rd.loadOR hx hO hm (fun i hi => by simp [Ob.cells, Cs.list])
theorem Rd.loadSub {t : TypeId} {x : Operand} {b j m k0 : Nat} {cs ds : List AV} {T' : TypeId} [T : CA P t true] [Z : CS P t m] (hx : evA σ x = .op b j) (hO : O[b]? = some (some ⟨.mx cs, T', k0⟩)) (hd : (cs.drop j).take m = ds) (hm : ds.length = m) : Rd P s O σ (.load t x) ty (.agg ds) :=
  Rd.loadOR hx hO hm (fun i hi => by rw [← hd, List.getElem?_take, if_pos hi, List.getElem?_drop]; rfl)
theorem Rd.loadTSub {t : TypeId} {x : Operand} {j m : Nat} {cs ds : List Tr} [T : CA P t true] [Z : CS P t m] (hx : evA σ x = .t (.pt cs j)) (hd : (cs.drop j).take m = ds) (hm : ds.length = m) : Rd P s O σ (.load t x) ty (.agg (ds.map .t)) :=
  Rd.loadTR hx hm (fun i hi => by rw [← hd, List.getElem?_take, if_pos hi, List.getElem?_drop])
theorem Rd.elR {t : TypeId} {x : Operand} {i m : Nat} [T : CA P t true] [Z : CS P t m] (hx : evA σ x = .t (.pt (eL xs) (i * m))) (hk : F.k = m) (hi : i < xs.length) : Rd P s O σ (.load t x) ty (.agg ((enc (xs[i]'hi)).map .t)) :=
  Rd.loadTR hx (by rw [F.len, hk]) fun f hf => by rw [← hk, eL_get hi (by rw [hk]; exact hf)]
theorem Rd.el1 {t : TypeId} {x : Operand} {i : Nat} {c : Tr} [T : CA P t false] (hx : evA σ x = .t (.pt (eL xs) (i * 1))) (hk : F.k = 1) (hi : i < xs.length) (hc : enc (xs[i]'hi) = [c]) : Rd P s O σ (.load t x) ty (.t c) :=
  Rd.loadT hx (by have := eL_get (xs := xs) (i := i) (f := 0) hi (by omega); rw [hk] at this; simpa [hc] using this)
theorem Rd.elF {t : TypeId} {x : Operand} {i m f : Nat} {c : Tr} [T : CA P t false] (hx : evA σ x = .t (.pt (eL xs) (i * m + f))) (hk : F.k = m) (hi : i < xs.length) (hc : (enc (xs[i]'hi))[f]? = some c) : Rd P s O σ (.load t x) ty (.t c) :=
  Rd.loadT hx (by rw [← hk, eL_get hi (by rw [← F.len (xs[i]'hi)]; exact (List.getElem?_eq_some_iff.1 hc).1)]; exact hc)
theorem Rd.elFR {t : TypeId} {x : Operand} {i m f q : Nat} {ds : List Tr} [T : CA P t true] [Z : CS P t q] (hx : evA σ x = .t (.pt (eL xs) (i * m + f))) (hk : F.k = m) (hi : i < xs.length) (hf : f + q ≤ m) (hd : ((enc (xs[i]'hi)).drop f).take q = ds) : Rd P s O σ (.load t x) ty (.agg (ds.map .t)) := by
  subst hd
  refine Rd.loadTR hx (by rw [List.length_take, List.length_drop, F.len, hk]; omega) fun g hg => ?_
  rw [← hk, Nat.add_assoc, eL_get hi (by rw [hk]; omega), List.getElem?_take, if_pos hg, List.getElem?_drop]
theorem Rd.ownR {t e : TypeId} {x : Operand} {b i k0 m : Nat} [T : CA P t true] [Z : CS P t m] (hx : evA σ x = .op b (0 + i * m)) (hO : O[b]? = some (some ⟨.tr (eL xs), e, k0⟩)) (hk : F.k = m) (hi : i < xs.length) : Rd P s O σ (.load t x) ty (.agg ((enc (xs[i]'hi)).map .t)) :=
  Rd.loadOTR (by rw [hx, Nat.zero_add]) hO (by rw [F.len, hk]) fun f hf => by rw [← hk, eL_get hi (by rw [hk]; exact hf)]
theorem Rd.own1 {t e : TypeId} {x : Operand} {b i k0 : Nat} {c : Tr} [T : CA P t false] (hx : evA σ x = .op b (0 + i * 1)) (hO : O[b]? = some (some ⟨.tr (eL xs), e, k0⟩)) (hk : F.k = 1) (hi : i < xs.length) (hc : enc (xs[i]'hi) = [c]) : Rd P s O σ (.load t x) ty (.t c) :=
  Rd.loadOT (by rw [hx, Nat.zero_add]) hO (by have := eL_get (xs := xs) (i := i) (f := 0) hi (by omega); rw [hk] at this; simpa [hc] using this)
theorem Rd.ownF {t e : TypeId} {x : Operand} {b i m f k0 : Nat} {c : Tr} [T : CA P t false] (hx : evA σ x = .op b (0 + i * m + f)) (hO : O[b]? = some (some ⟨.tr (eL xs), e, k0⟩)) (hk : F.k = m) (hi : i < xs.length) (hc : (enc (xs[i]'hi))[f]? = some c) : Rd P s O σ (.load t x) ty (.t c) :=
  Rd.loadOT (by rw [hx, Nat.zero_add]) hO (by rw [← hk, eL_get hi (by rw [← F.len (xs[i]'hi)]; exact (List.getElem?_eq_some_iff.1 hc).1)]; exact hc)
/-- A store of a whole element. -/
theorem PL.stR {t e : TypeId} {x y : Operand} {b i k0 m : Nat} {v : AV} (x' : α) [Z : CS P t m] (hx : evA σ x = .op b (0 + i * m)) (hy : evA σ y = v) (hw : wholeA v = true) (hO : O[b]? = some (some ⟨.tr (eL xs), e, k0⟩)) (hk : F.k = m) (hi : i < xs.length) (hc : cellsA v = (enc x').map .t)
    (k : PL P n s ops rest Q σ (O.set b (some ⟨.tr (eL (xs.set i x')), e, k0⟩))) : PL P n s ops (⟨none, .store t x y, ty, pos, after, none⟩ :: rest) Q σ O := by
  refine PL.storeT (cs := enc x') (by rw [hx, Nat.zero_add]) hy hw hc (by rw [F.len, hk]) hO ?_ ?_
  · rw [eL_len, hk]; have : (i + 1) * m ≤ xs.length * m := Nat.mul_le_mul_right _ hi
    rw [Nat.add_mul] at this; omega
  · rw [← hk, eL_setR x' i hi]; exact k
theorem PL.stF {t e : TypeId} {x y : Operand} {b i k0 m f : Nat} {c : Tr} (x' : α) [Z : CS P t 1] (hx : evA σ x = .op b (0 + i * m + f)) (hy : evA σ y = .t c) (hO : O[b]? = some (some ⟨.tr (eL xs), e, k0⟩)) (hk : F.k = m) (hi : i < xs.length) (hf : f < m) (hc : enc x' = (enc (xs[i]'hi)).set f c)
    (k : PL P n s ops rest Q σ (O.set b (some ⟨.tr (eL (xs.set i x')), e, k0⟩))) : PL P n s ops (⟨none, .store t x y, ty, pos, after, none⟩ :: rest) Q σ O := by
  refine PL.storeT (m := 1) (cs := [c]) (by rw [hx, Nat.zero_add]) hy rfl rfl rfl hO ?_ ?_
  · rw [eL_len, hk]; have : (i + 1) * m ≤ xs.length * m := Nat.mul_le_mul_right _ hi
    rw [Nat.add_mul] at this; omega
  · rw [← hk, eL_setF (by rw [hk]; exact hf) x' i hi hc]; exact k
theorem PL.stI {xs : List Int} {t e : TypeId} {x y : Operand} {b i k0 : Nat} {v : Int} [Z : CS P t 1] (hx : evA σ x = .op b (0 + i * 1)) (hy : evA σ y = iA v) (hO : O[b]? = some (some ⟨.tr (eL xs), e, k0⟩)) (hi : i < xs.length)
    (k : PL P n s ops rest Q σ (O.set b (some ⟨.tr (eL (xs.set i v)), e, k0⟩))) : PL P n s ops (⟨none, .store t x y, ty, pos, after, none⟩ :: rest) Q σ O := PL.stR v hx hy rfl hO rfl hi rfl k
theorem PL.stB {xs : List Bool} {t e : TypeId} {x y : Operand} {b i k0 : Nat} {v : Bool} [Z : CS P t 1] (hx : evA σ x = .op b (0 + i * 1)) (hy : evA σ y = bA v) (hO : O[b]? = some (some ⟨.tr (eL xs), e, k0⟩)) (hi : i < xs.length)
    (k : PL P n s ops rest Q σ (O.set b (some ⟨.tr (eL (xs.set i v)), e, k0⟩))) : PL P n s ops (⟨none, .store t x y, ty, pos, after, none⟩ :: rest) Q σ O := PL.stR v hx hy rfl hO rfl hi rfl k
theorem Sb.own {O : Obs} {ρ : Rho} {b n0 k0 : Nat} {e : TypeId} (hO : O[b]? = some (some ⟨.tr (eL xs), e, k0⟩)) (hb : some b ∉ ρ) (hn : n0 = xs.length) (hk : F.k = k0) : Sb true O ρ (sL xs) (.os b 0 n0) := by
  subst hn; subst hk
  exact .fz rfl hO hb rfl (by rw [List.drop_zero]; exact eL_all xs) (by rw [eL_len]; simp)
theorem SrcA.eL {ys : List α} {k0 : Nat} (hk : F.k = k0) : SrcA s O (sL ys) k0 ys.length (V.eL ys) := SrcA.t (by rw [eL_len, hk])
theorem SrcA.ownE {O : Obs} {ys : List α} {b k0 m : Nat} {e : TypeId} (hO : O[b]? = some (some ⟨.tr (V.eL ys), e, k0⟩)) (hm : m = ys.length) (hk : F.k = k0) : SrcA s O (.os b 0 m) k0 m (V.eL ys) := by
  subst hm; subst hk
  exact SrcA.own hO rfl (by rw [List.drop_zero]; exact eL_all ys) (eL_len ys)
/-- append of one element, by a literal. -/
theorem SrcA.one {O : Obs} (y : α) {b k0 : Nat} {e : TypeId} {cs : List AV} (hO : O[b]? = some (some ⟨.mx cs, e, k0⟩)) (hc : trsL cs = some (enc y)) (hk : F.k = k0) : SrcA s O (.os b 0 1) k0 1 (enc y) :=
  SrcA.own hO hc (by rw [List.drop_zero]; exact List.take_of_length_le (by rw [F.len, hk]; omega)) (by rw [F.len, hk]; omega)
/-- append(xs, ys...) to a slice of the call's own. -/
theorem PL.appE {m0 : Nat} (hm : s.L.length = m0) {t e : TypeId} {x y : Operand} {b n0 m bytes k0 : Nat} {ya : AV} (ys zs : List α) [T : CSl P t e] [Z : CE P e k0 bytes] (hd : Nat.blt d n = true) (hx : evA σ x = .os b 0 n0) (hO : O[b]? = some (some ⟨.tr (eL xs), e, k0⟩)) (hy : evA σ y = ya)
    (hsrc : SrcA s (O.set b none) ya k0 m (eL ys)) (hb : Nat.ble m0 b = true) (hk : F.k = k0) (hn : n0 = xs.length) (hyl : m = ys.length) (hz : zs = xs ++ ys) (hbytes : (xs.length + ys.length) * bytes ≤ 140737488355328) (h63 : xs.length + ys.length ≤ 4611686018427387904)
    (kk : PL P n s ops rest Q (updA σ d (.os O.length 0 zs.length)) (O.set b none ++ [some ⟨.tr (eL zs), e, k0⟩])) :
    PL P n s ops (⟨some d, .call { callee := .builtin .append, args := #[x, y], argTypes := #[t, t] }, ty, pos, after, none⟩ :: rest) Q σ O := by
  subst hn; subst hyl; subst hz; subst hk
  refine PL.app hm hd hx hO hy hsrc hb (eL_all xs) (eL_len xs) hbytes h63 (eL_app xs ys).symm ?_
  rw [← List.length_append]; exact kk
theorem PL.appE0 {m0 : Nat} (hm : s.L.length = m0) {t e : TypeId} {x y : Operand} {b m bytes k0 : Nat} {ya : AV} (ys : List α) [T : CSl P t e] [Z : CE P e k0 bytes] (hd : Nat.blt d n = true) (hx : evA σ x = .os b 0 0) (hO : O[b]? = some (some ⟨.tr [], e, k0⟩)) (hy : evA σ y = ya)
    (hsrc : SrcA s (O.set b none) ya k0 m (eL ys)) (hb : Nat.ble m0 b = true) (hk : F.k = k0) (hyl : m = ys.length) (hbytes : ys.length * bytes ≤ 140737488355328) (h63 : ys.length ≤ 4611686018427387904)
    (kk : PL P n s ops rest Q (updA σ d (.os O.length 0 ys.length)) (O.set b none ++ [some ⟨.tr (eL ys), e, k0⟩])) :
    PL P n s ops (⟨some d, .call { callee := .builtin .append, args := #[x, y], argTypes := #[t, t] }, ty, pos, after, none⟩ :: rest) Q σ O :=
  PL.appE (xs := []) hm ys ys hd hx hO hy hsrc hb hk rfl hyl rfl (by simpa using hbytes) (by simpa using h63) kk
theorem PL.appNE {t e : TypeId} {x y : Operand} {m bytes k0 : Nat} {ya : AV} (ys : List α) [T : CSl P t e] [Z : CE P e k0 bytes] (hd : Nat.blt d n = true) (hx : evA σ x = .t (.v (.slice none 0 0))) (hy : evA σ y = ya) (hsrc : SrcA s O ya k0 m (eL ys))
    (hk : F.k = k0) (hyl : m = ys.length) (hbytes : ys.length * bytes ≤ 140737488355328) (h63 : ys.length ≤ 4611686018427387904)
    (kk : PL P n s ops rest Q (updA σ d (.os O.length 0 ys.length)) (O ++ [some ⟨.tr (eL ys), e, k0⟩])) :
    PL P n s ops (⟨some d, .call { callee := .builtin .append, args := #[x, y], argTypes := #[t, t] }, ty, pos, after, none⟩ :: rest) Q σ O := by
  subst hyl; subst hk
  exact PL.appN hd hx hy hsrc hbytes h63 kk
theorem PR.appE {K : Fr → Obs → List Nat → Prop} {ids : List Nat} {m0 : Nat} (hm : s.L.length = m0) {t e : TypeId} {x y : Operand} {b n0 m bytes k0 : Nat} {ya : AV} (ys zs : List α) [T : CSl P t e] [Z : CE P e k0 bytes] (hd : Nat.blt d n = true) (hx : evA σ x = .os b 0 n0) (hO : O[b]? = some (some ⟨.tr (eL xs), e, k0⟩)) (hy : evA σ y = ya)
    (hsrc : SrcA s (O.set b none) ya k0 m (eL ys)) (hb : Nat.ble m0 b = true) (hxs : ids.contains b = true) (hk : F.k = k0) (hn : n0 = xs.length) (hyl : m = ys.length) (hz : zs = xs ++ ys) (hbytes : (xs.length + ys.length) * bytes ≤ 140737488355328) (h63 : xs.length + ys.length ≤ 4611686018427387904)
    (kk : PR P n s ops ids rest K (updA σ d (.os O.length 0 zs.length)) (O.set b none ++ [some ⟨.tr (eL zs), e, k0⟩])) :
    PR P n s ops ids (⟨some d, .call { callee := .builtin .append, args := #[x, y], argTypes := #[t, t] }, ty, pos, after, none⟩ :: rest) K σ O := by
  subst hn; subst hyl; subst hz; subst hk
  refine PR.app hm hd hx hO hy hsrc hb hxs (eL_all xs) (eL_len xs) hbytes h63 (eL_app xs ys).symm ?_
  rw [← List.length_append]; exact kk
theorem PR.appE0 {K : Fr → Obs → List Nat → Prop} {ids : List Nat} {m0 : Nat} (hm : s.L.length = m0) {t e : TypeId} {x y : Operand} {b m bytes k0 : Nat} {ya : AV} (ys : List α) [T : CSl P t e] [Z : CE P e k0 bytes] (hd : Nat.blt d n = true) (hx : evA σ x = .os b 0 0) (hO : O[b]? = some (some ⟨.tr [], e, k0⟩)) (hy : evA σ y = ya)
    (hsrc : SrcA s (O.set b none) ya k0 m (eL ys)) (hb : Nat.ble m0 b = true) (hxs : ids.contains b = true) (hk : F.k = k0) (hyl : m = ys.length) (hbytes : ys.length * bytes ≤ 140737488355328) (h63 : ys.length ≤ 4611686018427387904)
    (kk : PR P n s ops ids rest K (updA σ d (.os O.length 0 ys.length)) (O.set b none ++ [some ⟨.tr (eL ys), e, k0⟩])) :
    PR P n s ops ids (⟨some d, .call { callee := .builtin .append, args := #[x, y], argTypes := #[t, t] }, ty, pos, after, none⟩ :: rest) K σ O :=
  PR.appE (xs := []) hm ys ys hd hx hO hy hsrc hb hxs hk rfl hyl rfl (by simpa using hbytes) (by simpa using h63) kk
end
/-! calls with a known tree, results -/
abbrev RT (c : AV) : AV → List Ob → Prop := fun r bl => r = c ∧ bl = []
/-- An owned slice. -/
abbrev ow {α : Type} [Enc α] (e : TypeId) (xs : List α) : Ob := ⟨.tr (eL xs), e, Enc.k α⟩
section
variable {P : Program} {n : Nat} {s : Bs} {Q : APost} {σ : Fr} {O : Obs} {ops : Array Oper} {rest : List Oper} {d : Nat} {ty : TypeId} {pos : String} {after : Array Edge} {xs : List Nat} {K : Fr → Obs → List Nat → Prop}
theorem PL.callV {f : FuncId} {args ds : List AV} {v : Value} {as' : List Operand} {ats : Array TypeId} (hc : Fn P f args (RT (.t (.v v)))) (hd : Nat.blt d n = true)
    (hr : ∀ args w, (callFunc f args).run P w = .ok (.enter f args) w) (ha : as'.map (evA σ) = ds) (hs : SbL true O [] args ds)
    (k : PL P n s ops rest Q (updA σ d (.t (.v v))) O) :
    PL P n s ops (⟨some d, .call { callee := .value (.func f), args := as'.toArray, argTypes := ats }, ty, pos, after, none⟩ :: rest) Q σ O := by
  refine PL.call true [] hc hd hr ha hs rfl trivial (fun _ r bl h => by obtain ⟨rfl, rfl⟩ := h; exact ⟨trivial, fun ob h => by simp at h⟩) ?_
  rintro _ _ ⟨rfl, rfl⟩
  simpa [setK, AV.ren] using k
theorem PR.callV {f : FuncId} {args ds : List AV} {v : Value} {as' : List Operand} {ats : Array TypeId} (hc : Fn P f args (RT (.t (.v v)))) (hd : Nat.blt d n = true)
    (hr : ∀ args w, (callFunc f args).run P w = .ok (.enter f args) w) (ha : as'.map (evA σ) = ds) (hs : SbL true O [] args ds)
    (k : PR P n s ops xs rest K (updA σ d (.t (.v v))) O) :
    PR P n s ops xs (⟨some d, .call { callee := .value (.func f), args := as'.toArray, argTypes := ats }, ty, pos, after, none⟩ :: rest) K σ O := by
  refine PR.call true [] hc hd hr ha hs rfl trivial (fun _ r bl h => by obtain ⟨rfl, rfl⟩ := h; exact ⟨trivial, fun ob h => by simp at h⟩) rfl ?_
  rintro _ _ ⟨rfl, rfl⟩
  simpa [setK, AV.ren] using k
/-- The function ends with one tree. -/
theorem FinA.t1 {fn : Func} {m : Nat} {t : Nat} {c c' : Tr} {e : Exit} (h : fn.results = #[.tmp t]) (he : e = .ret ∨ e = .normal) (hm : m = 0) (hv : σ t = .t c') (hc : c' = c) : FinA P fn m (RT (.t c)) e σ O := by
  subst hm
  exact FinA.mk (rl := [.tmp t]) (r := .t c) (bl := []) [] he h (.tmp .nil) rfl rfl rfl (by rw [← hc]; show Sb _ _ _ _ (σ t); rw [hv]; exact .t _) trivial ⟨rfl, rfl⟩
theorem FinA.b1 {fn : Func} {m : Nat} {t : Nat} {b b' : Bool} {e : Exit} (h : fn.results = #[.tmp t]) (he : e = .ret ∨ e = .normal) (hm : m = 0) (hv : σ t = bA b') (hc : b' = b) : FinA P fn m (RT (bA b)) e σ O := FinA.t1 h he hm hv (by rw [hc])
theorem FinA.i1 {fn : Func} {m : Nat} {t : Nat} {b b' : Int} {e : Exit} (h : fn.results = #[.tmp t]) (he : e = .ret ∨ e = .normal) (hm : m = 0) (hv : σ t = iA b') (hc : b' = b) : FinA P fn m (RT (iA b)) e σ O := FinA.t1 h he hm hv (by rw [hc])
/-! kinds of operations, for a walk that looks at the head first -/
theorem PL.kBin {x y : Operand} {t t' : TypeId} {o : BinOp} {dd : Option Nat} (h : PL P n s ops (⟨dd, .binOp o t x y t', ty, pos, after, none⟩ :: rest) Q σ O) : PL P n s ops (⟨dd, .binOp o t x y t', ty, pos, after, none⟩ :: rest) Q σ O := h
theorem PL.kBui {c : Builtin} {xs : Array Operand} {ats : Array TypeId} {dd : Option Nat} (h : PL P n s ops (⟨dd, .call { callee := .builtin c, args := xs, argTypes := ats }, ty, pos, after, none⟩ :: rest) Q σ O) : PL P n s ops (⟨dd, .call { callee := .builtin c, args := xs, argTypes := ats }, ty, pos, after, none⟩ :: rest) Q σ O := h
theorem PL.kCal {f : FuncId} {xs : Array Operand} {ats : Array TypeId} {dd : Option Nat} (h : PL P n s ops (⟨dd, .call { callee := .value (.func f), args := xs, argTypes := ats }, ty, pos, after, none⟩ :: rest) Q σ O) : PL P n s ops (⟨dd, .call { callee := .value (.func f), args := xs, argTypes := ats }, ty, pos, after, none⟩ :: rest) Q σ O := h
theorem PL.kLoad {x : Operand} {t : TypeId} {dd : Option Nat} (h : PL P n s ops (⟨dd, .load t x, ty, pos, after, none⟩ :: rest) Q σ O) : PL P n s ops (⟨dd, .load t x, ty, pos, after, none⟩ :: rest) Q σ O := h
theorem PL.kStore {x y : Operand} {t : TypeId} {dd : Option Nat} (h : PL P n s ops (⟨dd, .store t x y, ty, pos, after, none⟩ :: rest) Q σ O) : PL P n s ops (⟨dd, .store t x y, ty, pos, after, none⟩ :: rest) Q σ O := h
theorem PL.kIx {x y : Operand} {t : TypeId} {dd : Option Nat} (h : PL P n s ops (⟨dd, .indexAddr t x y, ty, pos, after, none⟩ :: rest) Q σ O) : PL P n s ops (⟨dd, .indexAddr t x y, ty, pos, after, none⟩ :: rest) Q σ O := h
theorem PL.kOp {o : Oper} (h : PL P n s ops (o :: rest) Q σ O) : PL P n s ops (o :: rest) Q σ O := h
theorem PL.kGu {o : Op} {q : Nat × Bool} {dd : Option Nat} (h : PL P n s ops (⟨dd, o, ty, pos, after, some q⟩ :: rest) Q σ O) : PL P n s ops (⟨dd, o, ty, pos, after, some q⟩ :: rest) Q σ O := h
theorem PR.kBin {x y : Operand} {t t' : TypeId} {o : BinOp} {dd : Option Nat} (h : PR P n s ops xs (⟨dd, .binOp o t x y t', ty, pos, after, none⟩ :: rest) K σ O) : PR P n s ops xs (⟨dd, .binOp o t x y t', ty, pos, after, none⟩ :: rest) K σ O := h
theorem PR.kBui {c : Builtin} {ys : Array Operand} {ats : Array TypeId} {dd : Option Nat} (h : PR P n s ops xs (⟨dd, .call { callee := .builtin c, args := ys, argTypes := ats }, ty, pos, after, none⟩ :: rest) K σ O) : PR P n s ops xs (⟨dd, .call { callee := .builtin c, args := ys, argTypes := ats }, ty, pos, after, none⟩ :: rest) K σ O := h
theorem PR.kCal {f : FuncId} {ys : Array Operand} {ats : Array TypeId} {dd : Option Nat} (h : PR P n s ops xs (⟨dd, .call { callee := .value (.func f), args := ys, argTypes := ats }, ty, pos, after, none⟩ :: rest) K σ O) : PR P n s ops xs (⟨dd, .call { callee := .value (.func f), args := ys, argTypes := ats }, ty, pos, after, none⟩ :: rest) K σ O := h
theorem PR.kLoad {x : Operand} {t : TypeId} {dd : Option Nat} (h : PR P n s ops xs (⟨dd, .load t x, ty, pos, after, none⟩ :: rest) K σ O) : PR P n s ops xs (⟨dd, .load t x, ty, pos, after, none⟩ :: rest) K σ O := h
theorem PR.kIx {x y : Operand} {t : TypeId} {dd : Option Nat} (h : PR P n s ops xs (⟨dd, .indexAddr t x y, ty, pos, after, none⟩ :: rest) K σ O) : PR P n s ops xs (⟨dd, .indexAddr t x y, ty, pos, after, none⟩ :: rest) K σ O := h
theorem PR.kGu {o : Op} {q : Nat × Bool} {dd : Option Nat} (h : PR P n s ops xs (⟨dd, o, ty, pos, after, some q⟩ :: rest) K σ O) : PR P n s ops xs (⟨dd, o, ty, pos, after, some q⟩ :: rest) K σ O := h
theorem PR.kOp {o : Oper} (h : PR P n s ops xs (o :: rest) K σ O) : PR P n s ops xs (o :: rest) K σ O := h
end
end V
end Go.Proofs.Ytaiifcnjmbpbjaa
