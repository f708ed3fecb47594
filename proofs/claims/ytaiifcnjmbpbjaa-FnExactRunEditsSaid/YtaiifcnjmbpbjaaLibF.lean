/- More operations: bytes, bits, slice expressions, make, structs. No condition. -/
import Derived.Test.YtaiifcnjmbpbjaaLibE
import Derived.Test.YtaiifcnjmbpbjaaLibG
import Derived.Great.FillDense
namespace Go.Proofs.Ytaiifcnjmbpbjaa
namespace V
open Flat (enc)
set_option linter.unusedVariables false
set_option linter.unusedSimpArgs false
open Go.RowKit

namespace R
section
variable {P : Program} {σ : Nat → Value} {w ws : World} {w0 : Base} {Sn : List Snap} {O : List (Nat × Obj)} {ty : TypeId}
theorem u8 {s t : TypeId} {x : Operand} {u : UInt8} [T : CIn P t] [T' : CU8 P s] (hx : ev σ x = .int .u8 u.toNat) : Yl P σ (.convert s t x) ty w (.int .i64 u.toNat) w := Yl.mk fun d pos after g => by
  have := wrap_in (n := (u.toNat : Int)) (by have := u.toNat_lt; omega)
  simp [execOp, hx, convert, T'.run, T.run, Conv.intToInt, this]
theorem i64i64 {s t : TypeId} {x : Operand} {n : Int} [T : CIn P t] [T' : CIn P s] (hx : ev σ x = .int .i64 n) (hn : -9223372036854775808 ≤ n ∧ n ≤ 9223372036854775807) : Yl P σ (.convert s t x) ty w (.int .i64 n) w := Yl.mk fun d pos after g => by
  have := wrap_in hn
  simp [execOp, hx, convert, T'.run, T.run, Conv.intToInt, this]
theorem xor_lt {m n : Nat} (hm : m < 2 ^ 63) (hn : n < 2 ^ 63) : m ^^^ n < 2 ^ 63 := Nat.xor_lt_two_pow hm hn
theorem xor {t t' : TypeId} {x y : Operand} {m n : Nat} (hx : ev σ x = .int .i64 (m : Int)) (hy : ev σ y = .int .i64 (n : Int)) (hm : m < 2 ^ 63) (hn : n < 2 ^ 63) :
    Yl P σ (.binOp .xor t x y t') ty w (.int .i64 ((m ^^^ n : Nat) : Int)) w := by
  refine exBin (by rw [hx, hy]; rfl) ?_
  rw [hx, hy]
  have h1 : BitVec.ofInt 64 (m : Int) = BitVec.ofNat 64 m := BitVec.ofInt_natCast ..
  have h2 : BitVec.ofInt 64 (n : Int) = BitVec.ofNat 64 n := BitVec.ofInt_natCast ..
  have h3 : (BitVec.ofNat 64 m ^^^ BitVec.ofNat 64 n).toNat = m ^^^ n := by
    rw [BitVec.toNat_xor, BitVec.toNat_ofNat, BitVec.toNat_ofNat, Nat.mod_eq_of_lt (by omega), Nat.mod_eq_of_lt (by omega)]
  have h4 := xor_lt hm hn
  have h5 := wrap_in (n := ((m ^^^ n : Nat) : Int)) (by omega)
  have e : binOp .xor t (.int .i64 (m : Int)) (.int .i64 (n : Int)) = Op.intBits .xor .i64 m n := rfl
  rw [e]
  show (Pure.pure (Value.int .i64 (IntKind.i64.wrap ((BitVec.ofInt 64 (m : Int) ^^^ BitVec.ofInt 64 (n : Int)).toNat : Int))) : Sem Value).run P w = _
  rw [h1, h2, h3, h5]
  rfl
theorem add_zero (a : Addr) : a.add 0 = a := rfl
/-- x[:n] -/
theorem sliceHi {t e : TypeId} {k : Nat} {x y : Operand} {a : Option Addr} {l c : Nat} {i : Int} [T : CSl P t e] [Z : CS P e k] (hx : ev σ x = .slice a l c) (hy : ev σ y = .int .i64 i) (hi : 0 ≤ i ∧ i ≤ c) :
    Yl P σ (.slice t x none (some y) none) ty w (.slice a i.toNat c) w := Yl.mk fun d pos after g => by
  have hm : Option.map (fun x : Addr => x.add (0 * k)) a = a := by cases a <;> simp [add_zero]
  simp [execOp, hx, hy, Instr.sliceAt, T.run, Z.run, Instr.slice, Instr.sliceBounds, Instr.sliceBound, asIntOf, hi, add_zero]
/-- x[n:], the slice being read. -/
theorem sliceLo {t e : TypeId} {k : Nat} {x y : Operand} {b off l c : Nat} {i : Int} [T : CSl P t e] [Z : CS P e k] (hx : ev σ x = .slice (some ⟨b, off, none⟩) l c) (hy : ev σ y = .int .i64 i) (hi : 0 ≤ i ∧ i ≤ l) (hc : l ≤ c) :
    Yl P σ (.slice t x (some y) none none) ty w (.slice (some (if c = i.toNat then ⟨b, off, none⟩ else ⟨b, off + i.toNat * k, none⟩)) (l - i.toNat) (c - i.toNat)) w := Yl.mk fun d pos after g => by
  have : Addr.add ⟨b, off, none⟩ (i.toNat * k) = ⟨b, off + i.toNat * k, none⟩ := by unfold Addr.add; split <;> simp_all
  simp [execOp, hx, hy, Instr.sliceAt, T.run, Z.run, Instr.slice, Instr.sliceBounds, Instr.sliceBound, asIntOf, hi]
  split <;> simp_all
/-- A struct's cells, its parts filled in. -/
def bl (pl : List (Nat × Nat)) : List Value → List (Nat × Value) → List Value
  | zs, [] => zs
  | zs, (i, v) :: r => bl pl (zs.take (pl.getD i (0, 0)).1 ++ v.cells.toList ++ zs.drop ((pl.getD i (0, 0)).1 + (pl.getD i (0, 0)).2)) r
def blok (pl : List (Nat × Nat)) (n : Nat) : List (Nat × Value) → Bool
  | [] => true
  | (i, v) :: r => Nat.blt i pl.length && Nat.beq v.cells.toList.length (pl.getD i (0, 0)).2 && Nat.ble ((pl.getD i (0, 0)).1 + (pl.getD i (0, 0)).2) n && blok pl n r
theorem fill_bl (pl : List (Nat × Nat)) : ∀ (parts : List (Nat × Value)) (zs : List Value), blok pl zs.length parts = true → Instr.fill (pl.toArray[·]?) zs.toArray parts = some (bl pl zs parts).toArray
  | [], zs, _ => rfl
  | (i, v) :: r, zs, h => by
    simp only [blok, Bool.and_eq_true] at h
    obtain ⟨⟨⟨h1, h2⟩, h3⟩, h4⟩ := h
    have h1 : i < pl.length := Nat.le_of_ble_eq_true h1
    have h2 := Nat.eq_of_beq_eq_true h2
    have h3 := Nat.le_of_ble_eq_true h3
    have hp : pl.toArray[i]? = some (pl.getD i (0, 0)) := by simp [h1]
    have hbl : bl pl zs ((i, v) :: r) = bl pl (zs.take (pl.getD i (0, 0)).1 ++ v.cells.toList ++ zs.drop ((pl.getD i (0, 0)).1 + (pl.getD i (0, 0)).2)) r := rfl
    rw [hbl]
    clear hbl
    generalize pl.getD i (0, 0) = q at *
    obtain ⟨off, size⟩ := q
    have h2' : v.cells.size = size := by simpa using h2
    simp only [Instr.fill, hp]
    rw [if_neg (by simp at h3 ⊢; omega)]
    have hf := Great.foldl_set off v.cells.toList 0 zs.toArray
    have he : (v.cells.zipIdx.foldl (fun cs (x : Value × Nat) => cs.setIfInBounds (off + x.2) x.1) zs.toArray) = (zs.take off ++ v.cells.toList ++ zs.drop (off + size)).toArray := by
      have e1 : v.cells.zipIdx.foldl (fun cs (x : Value × Nat) => cs.setIfInBounds (off + x.2) x.1) zs.toArray = (v.cells.toList.zipIdx 0).foldl (fun cs (x : Value × Nat) => cs.setIfInBounds (off + x.2) x.1) zs.toArray := by
        rw [← Array.foldl_toList, Array.toList_zipIdx]
      rw [e1]
      apply Array.ext_getElem?
      intro k
      rw [hf.2 k]
      simp only [Nat.add_zero, List.getElem?_toArray, List.size_toArray, List.getElem?_append, List.getElem?_take, List.getElem?_drop, List.length_append, List.length_take]
      simp only [Array.length_toList, h2'] at *
      grind
    have hlen : (zs.take off ++ v.cells.toList ++ zs.drop (off + size)).length = zs.length := by
      simp only [List.length_append, List.length_take, List.length_drop, Array.length_toList, h2']
      simp at h3; omega
    have ih := fill_bl pl r (zs.take off ++ v.cells.toList ++ zs.drop (off + size)) (by rw [hlen]; exact h4)
    rw [← ih, ← he]
/-- A struct's literal, by its fields' places. -/
theorem buildL {t : TypeId} {parts : Array (Nat × Operand)} {z : Value} {pl : List (Nat × Nat)} {zs cs : List Value} {ps : List (Nat × Value)} [Y : CZ P t z] [B : CB P t pl] (hz : z.cells.toList = zs) (hp : List.map (fun x => (x.fst, ev σ x.snd)) parts.toList = ps) (hok : blok pl zs.length ps = true) (hc : bl pl zs ps = cs) :
    Yl P σ (.build t parts) ty w (.agg cs.toArray) w := Yl.mk fun d pos after g => by
  obtain ⟨fs, h1, h2⟩ := B.run w
  have hz' : z.cells = zs.toArray := by rw [← hz]
  have h3 := fill_bl pl ps zs hok
  rw [hc, ← hp] at h3
  simp only [List.getElem?_toArray] at h3
  simp only [execOp, Instr.build, Sem.run_bind, Y.run, h1, h2, Result.andThen_ok, hz']
  simp [h3]
/-- A struct's literal. -/
theorem build {t : TypeId} {parts : Array (Nat × Operand)} {z : Value} {cs : Array Value} [Y : CZ P t z] (hf : (Instr.build t (parts.map fun (i, x) => (i, ev σ x))).run P w = .ok (.agg cs) w) :
    Yl P σ (.build t parts) ty w (.agg cs) w := Yl.mk fun d pos after g => by
  simp [execOp, hf]
theorem field {t : TypeId} {x : Operand} {f : Nat} {cs : Array Value} {v : Value} (hx : ev σ x = .agg cs) (hf : (Instr.field t (.agg cs) f).run P w = .ok v w) : Yl P σ (.field t x f) ty w v w := Yl.mk fun d pos after g => by
  simp [execOp, hx, hf]
end
end R

section
variable {P : Program} {n : Nat} {Q : Post} {σ : Nat → Value} {w ws : World} {w0 : Base} {Sn : List Snap} {O O1 O2 E : List (Nat × Obj)} {ops : Array Oper} {rest : List Oper} {d : Nat} {ty : TypeId} {pos : String} {after : Array Edge}
theorem LW.u8 {s t : TypeId} {x : Operand} {u : UInt8} [T : CIn P t] [T' : CU8 P s] (hd : Nat.blt d n = true) (hx : ev σ x = .int .u8 u.toNat)
    (k : ∀ m : Nat, m = u.toNat → m < 256 → LW P n ops rest Q (upd σ d (.int .i64 (m : Int))) w) : LW P n ops (⟨some d, .convert s t x, ty, pos, after, none⟩ :: rest) Q σ w :=
  LW.op hd (R.u8 hx) (k _ rfl u.toNat_lt)
theorem QW.u8 {C : World → Prop} {K : (Nat → Value) → Prop} {s t : TypeId} {x : Operand} {u : UInt8} [T : CIn P t] [T' : CU8 P s] (hd : Nat.blt d n = true) (hx : ev σ x = .int .u8 u.toNat)
    (k : ∀ m : Nat, m = u.toNat → m < 256 → QW P n ops C rest K (upd σ d (.int .i64 (m : Int)))) : QW P n ops C (⟨some d, .convert s t x, ty, pos, after, none⟩ :: rest) K σ :=
  QW.op hd (fun w _ => R.u8 hx) (k _ rfl u.toNat_lt)
theorem LW.xor {t t' : TypeId} {x y : Operand} {a b : Int} (hd : Nat.blt d n = true) (hx : ev σ x = .int .i64 a) (hy : ev σ y = .int .i64 b) (ha : 0 ≤ a ∧ a ≤ 9223372036854775807) (hb : 0 ≤ b ∧ b ≤ 9223372036854775807)
    (k : ∀ r : Int, 0 ≤ r → r ≤ 9223372036854775807 → LW P n ops rest Q (upd σ d (.int .i64 r)) w) : LW P n ops (⟨some d, .binOp .xor t x y t', ty, pos, after, none⟩ :: rest) Q σ w := by
  obtain ⟨m, rfl⟩ := Int.eq_ofNat_of_zero_le ha.1
  obtain ⟨q, rfl⟩ := Int.eq_ofNat_of_zero_le hb.1
  have := R.xor_lt (m := m) (n := q) (by omega) (by omega)
  exact LW.op hd (R.xor hx hy (by omega) (by omega)) (k _ (by omega) (by omega))
theorem LW.remV {t t' : TypeId} {x y : Operand} {a b : Int} (hd : Nat.blt d n = true) (hx : ev σ x = .int .i64 a) (hy : ev σ y = .int .i64 b) (hb : 0 ≤ a ∧ 1 ≤ b)
    (k : ∀ r : Int, r = a % b → 0 ≤ r → r < b → LW P n ops rest Q (upd σ d (.int .i64 r)) w) : LW P n ops (⟨some d, .binOp .rem t x y t', ty, pos, after, none⟩ :: rest) Q σ w :=
  LW.op hd (R.rem hx hy hb) (k _ rfl (Int.emod_nonneg _ (by omega)) (Int.emod_lt_of_pos _ (by omega)))
theorem QW.remV {C : World → Prop} {K : (Nat → Value) → Prop} {t t' : TypeId} {x y : Operand} {a b : Int} (hd : Nat.blt d n = true) (hx : ev σ x = .int .i64 a) (hy : ev σ y = .int .i64 b) (hb : 0 ≤ a ∧ 1 ≤ b)
    (k : ∀ r : Int, r = a % b → 0 ≤ r → r < b → QW P n ops C rest K (upd σ d (.int .i64 r))) : QW P n ops C (⟨some d, .binOp .rem t x y t', ty, pos, after, none⟩ :: rest) K σ :=
  QW.op hd (fun w _ => R.rem hx hy hb) (k _ rfl (Int.emod_nonneg _ (by omega)) (Int.emod_lt_of_pos _ (by omega)))
theorem QW.quoV {C : World → Prop} {K : (Nat → Value) → Prop} {t t' : TypeId} {x y : Operand} {a b : Int} (hd : Nat.blt d n = true) (hx : ev σ x = .int .i64 a) (hy : ev σ y = .int .i64 b) (hb : 0 ≤ a ∧ a ≤ 9223372036854775807 ∧ 1 ≤ b)
    (k : ∀ r : Int, r = a / b → 0 ≤ r → r ≤ a → QW P n ops C rest K (upd σ d (.int .i64 r))) : QW P n ops C (⟨some d, .binOp .quo t x y t', ty, pos, after, none⟩ :: rest) K σ :=
  QW.op hd (fun w _ => R.quo hx hy hb) (k _ rfl (Int.ediv_nonneg hb.1 (by omega)) (Int.ediv_le_self _ hb.1))
theorem SlF.nil_of {α : Type} [F : Flat α] {lo hi : Nat} {xs : List α} (h : SlF lo hi w none xs) : xs = [] := by
  rcases h with h | ⟨b, off, h, _⟩
  · simpa using h
  · cases h
theorem SlF.take {α : Type} [F : Flat α] {lo hi : Nat} {a : Option Addr} {xs : List α} (h : SlF lo hi w a xs) (m : Nat) : SlF lo hi w a (xs.take m) := by
  rcases h with h | ⟨b, off, rfl, h1, h2, h3⟩
  · simp at h; subst h; exact .inl (by simp)
  · refine .inr ⟨b, off, rfl, h1, h2, fun j v hv => h3 j v ?_⟩
    have hp : (xs.map enc).flatten = ((xs.take m).map enc).flatten ++ ((xs.drop m).map enc).flatten := by
      rw [← List.flatten_append, ← List.map_append, List.take_append_drop]
    rw [hp, List.getElem?_append_left (List.getElem?_eq_some_iff.1 hv).1]
    exact hv
theorem LW.litV (vs : List Value) (S : Now w0 Sn O w) {t e : TypeId} {q len : Nat} {parts : Array (Nat × Operand)} {z : Value} [T : CSl P t e] [Z : CS P e q] [Y : CZ P e z] (hd : Nat.blt d n = true) (hz : z.cells.size = q) (hlen : vs.length = len) (hle : 0 < len * q ∧ len * q ≤ 16777216)
    (hs : ∀ v ∈ vs, v.cells.size = q) (hp : List.map (fun x => (x.fst, ev σ x.snd)) parts.toList = (vs.zipIdx 0).map fun x => (x.2, x.1))
    (k : ∀ b w', Now w0 Sn ((b, .cells (vs.flatMap fun v => v.cells.toList).toArray e (0, 0)) :: O) w' → LW P n ops rest Q (upd σ d (.slice (some ⟨b, 0, none⟩) len len)) w') :
    LW P n ops (⟨some d, .buildSlice t len parts, ty, pos, after, none⟩ :: rest) Q σ w := by
  refine LW.lit S hd hle ?_ k
  rw [hp]
  exact Great.fill_whole (Nat.pos_of_ne_zero fun h => by rw [h] at hle; simp at hle) vs _ hs (by rw [hlen]; simp)
theorem LW.litI (xs : List Int) (S : Now w0 Sn O w) {t e : TypeId} {len : Nat} {parts : Array (Nat × Operand)} {z : Value} [T : CSl P t e] [Z : CS P e 1] [Y : CZ P e z] (hd : Nat.blt d n = true) (hz : z.cells.size = 1) (hlen : xs.length = len) (hle : 0 < len * 1 ∧ len * 1 ≤ 16777216)
    (hp : List.map (fun x => (x.fst, ev σ x.snd)) parts.toList = ((xs.map (Value.int .i64)).zipIdx 0).map fun x => (x.2, x.1))
    (k : ∀ b w', Now w0 Sn ((b, .cells (fl xs).toArray e (0, 0)) :: O) w' → LW P n ops rest Q (upd σ d (.slice (some ⟨b, 0, none⟩) len len)) w') :
    LW P n ops (⟨some d, .buildSlice t len parts, ty, pos, after, none⟩ :: rest) Q σ w := by
  refine LW.litV (xs.map (Value.int .i64)) S hd hz (by simpa using hlen) hle (fun v hv => by obtain ⟨x, _, rfl⟩ := List.mem_map.1 hv; rfl) hp ?_
  have e1 : ((xs.map (Value.int .i64)).flatMap fun v => v.cells.toList) = fl xs := by
    rw [List.flatMap_map]; simp [fl, enc, Value.cells, List.flatMap]
  rw [e1]; exact k
theorem LW.litT (xs : List ByteArray) (S : Now w0 Sn O w) {t e : TypeId} {len : Nat} {parts : Array (Nat × Operand)} {z : Value} [T : CSl P t e] [Z : CS P e 1] [Y : CZ P e z] (hd : Nat.blt d n = true) (hz : z.cells.size = 1) (hlen : xs.length = len) (hle : 0 < len * 1 ∧ len * 1 ≤ 16777216)
    (hp : List.map (fun x => (x.fst, ev σ x.snd)) parts.toList = ((xs.map Value.string).zipIdx 0).map fun x => (x.2, x.1))
    (k : ∀ b w', Now w0 Sn ((b, .cells (fl xs).toArray e (0, 0)) :: O) w' → LW P n ops rest Q (upd σ d (.slice (some ⟨b, 0, none⟩) len len)) w') :
    LW P n ops (⟨some d, .buildSlice t len parts, ty, pos, after, none⟩ :: rest) Q σ w := by
  refine LW.litV (xs.map Value.string) S hd hz (by simpa using hlen) hle (fun v hv => by obtain ⟨x, _, rfl⟩ := List.mem_map.1 hv; rfl) hp ?_
  have e1 : ((xs.map Value.string).flatMap fun v => v.cells.toList) = fl xs := by
    rw [List.flatMap_map]; simp [fl, enc, Value.cells, List.flatMap]
  rw [e1]; exact k
theorem LW.lit1 {α : Type} [F : Flat α] (x1 : α) (S : Now w0 Sn O w) {t e : TypeId} {q : Nat} {x : Operand} {z v : Value} [T : CSl P t e] [Z : CS P e q] [Y : CZ P e z] (hd : Nat.blt d n = true) (hz : z.cells.size = q) (hk : F.k = q) (hle : 0 < q ∧ q ≤ 16777216) (hx : ev σ x = v) (hv : v.cells.toList = enc x1)
    (k : ∀ b w', Now w0 Sn ((b, .cells (enc x1).toArray e (0, 0)) :: O) w' → LW P n ops rest Q (upd σ d (.slice (some ⟨b, 0, none⟩) 1 1)) w') :
    LW P n ops (⟨some d, .buildSlice t 1 #[(0, x)], ty, pos, after, none⟩ :: rest) Q σ w := by
  have hc : v.cells.size = q := by have := congrArg List.length hv; rw [F.len, hk] at this; simpa using this
  refine LW.litV [v] S hd hz rfl (by omega) (fun u hu => by simp at hu; subst hu; exact hc) (by simp [hx]) ?_
  have e1 : ([v].flatMap fun v => v.cells.toList) = enc x1 := by simp [hv]
  rw [e1]; exact k
/-- make([]T, n) -/
theorem LW.make (S : Now w0 Sn O w) {t e : TypeId} {q bytes : Nat} {z : Value} {x y : Operand} {m : Nat} [T : CSl P t e] [Z : CS P e q] [Y : CZ P e z] [B : CY P e bytes] (hd : Nat.blt d n = true) (hx : ev σ x = .int .i64 (m : Int)) (hy : ev σ y = .int .i64 (m : Int))
    (hb : bytes * m ≤ 281474976710656) (hm : m ≤ 4611686018427387904) (hz : z.cells.size = q) (hq : 0 < q)
    (k : ∀ b w' cs, Now w0 Sn ((b, .cells cs e (0, 0)) :: O) w' → cs = ((List.range m).flatMap fun _ => z.cells.toList).toArray → LW P n ops rest Q (upd σ d (.slice (some ⟨b, 0, none⟩) m m)) w') :
    LW P n ops (⟨some d, .makeSlice t x y, ty, pos, after, none⟩ :: rest) Q σ w := by
  have hw := R.wrap_in (n := (m : Int)) (by omega)
  obtain ⟨i, hi, hby⟩ := B.run w
  have hcell : (if m * q = 0 then (#[] : Array Value) else z.cells).size = q ∨ m = 0 := by
    by_cases h : m = 0
    · exact .inr h
    · left; rw [if_neg (Nat.mul_ne_zero h (by omega))]; exact hz
  have hcs : (Array.range (m * q)).map (fun i => (if m * q = 0 then (#[] : Array Value) else z.cells)[i % (if m * q = 0 then (#[] : Array Value) else z.cells).size]!) = ((List.range m).flatMap fun _ => z.cells.toList).toArray := by
    rcases hcell with h | h
    · by_cases h0 : m * q = 0
      · have : m = 0 := by rcases Nat.mul_eq_zero.1 h0 with h1 | h1 <;> omega
        subst this; simp
      · rw [if_neg h0, hz]
        apply Array.ext'
        simp only [Array.toList_map, Array.toList_range]
        clear hx hy hb hm hw h h0 k
        induction m with
        | zero => simp
        | succ m ih =>
          rw [Nat.add_mul, Nat.one_mul, List.range_add, List.map_append, ih, List.range_succ, List.flatMap_append]
          congr 1
          simp only [List.map_map, List.flatMap_cons, List.flatMap_nil, List.append_nil]
          apply List.ext_getElem
          · simp [hz]
          · intro i h1 h2
            simp at h1 h2
            have : (m * q + i) % q = i := by rw [Nat.mul_comm, Nat.mul_add_mod]; exact Nat.mod_eq_of_lt (by omega)
            simp [this, h2]
    · subst h; simp
  refine LW.op hd (w' := w.alloc (.cells ((List.range m).flatMap fun _ => z.cells.toList).toArray e)) (v := .slice (some ⟨w.heap.size, 0, none⟩) m m) (Yl.mk fun d pos after g => ?_) (k _ _ _ (S.alloc _) rfl)
  have h1 : ¬ ((281474976710656 : Int) < (bytes : Int) * (m : Int)) := by
    have : ((bytes * m : Nat) : Int) = (bytes : Int) * (m : Int) := by simp
    omega
  have h2 : ¬ ((m : Int) < 0) := by omega
  have hmq : (m : Int).toNat = m := by simp
  by_cases h0 : m * q = 0
  · simp only [h0, if_true] at hcs
    simp [execOp, hx, hy, Instr.makeSlice, T.run, asInt, asIntOf, hi, hby, hw, h1, h2, Z.run, h0, newRow] at hcs ⊢
    rw [hcs]
  · simp only [h0, if_false] at hcs
    simp [execOp, hx, hy, Instr.makeSlice, T.run, asInt, asIntOf, hi, hby, hw, h1, h2, Z.run, Y.run, h0, newRow] at hcs ⊢
    rw [hcs]
end

/-! ### Slices of the call's own, read and written in place -/
/-- The block of an owned slice. -/
@[irreducible] def gb (E : List (Nat × Obj)) : Nat := ((E.head?).map Prod.fst).getD 0
theorem gb_one (b : Nat) (o : Obj) : gb [(b, o)] = b := by unfold gb; rfl
section
variable {α : Type} [F : Flat α] {P : Program} {n : Nat} {Q : Post} {σ : Nat → Value} {w ws : World} {w0 : Base} {Sn : List Snap} {O O1 O2 E : List (Nat × Obj)} {ops : Array Oper} {rest : List Oper} {d : Nat} {ty : TypeId} {ps : String} {after : Array Edge} {e : TypeId} {v : Value} {xs : List α}
theorem GrF.nonnil (h : GrF E e v xs) (hp : 0 < xs.length) : ∃ b cap cur, E = [(b, .cells cur e (0, 0))] ∧ v = .slice (some ⟨b, 0, none⟩) xs.length cap ∧ xs.length ≤ cap ∧ cap ≤ maxLen ∧ cur.size = cap * F.k ∧ cur.toList.take (xs.length * F.k) = fl xs := by
  rcases h.2 with ⟨_, _, h0⟩ | ⟨g, cap, cur, h1, h2, h3, h4, h5, h6⟩
  · omega
  · exact ⟨g, cap, cur, h1, h2, h3, h4, h5, h6⟩
theorem pos_at (b : Nat) (o : Obj) : (O1 ++ ([(b, o)] ++ O2))[O1.length]? = some (b, o) := by
  rw [List.getElem?_append_right (Nat.le_refl _)]; simp
theorem R.lenGr {t e' : TypeId} {x : Operand} [T : CSl P t e'] (hx : ev σ x = v) (h : GrF E e v xs) : Yl P σ (.call { callee := .builtin .len, args := #[x], argTypes := #[t] }) ty w (.int .i64 (xs.length : Int)) w := by
  obtain ⟨a, cap, rfl⟩ := h.shape
  exact R.lenSl hx
theorem R.ixGr {t e' : TypeId} {k : Nat} {x y : Operand} {i : Int} [T : CSl P t e'] [Z : CS P e' k] (hx : ev σ x = v) (h : GrF E e v xs) (hy : ev σ y = .int .i64 i) (hi : 0 ≤ i ∧ i < xs.length) :
    Yl P σ (.indexAddr t x y) ty w (.pointer (some ⟨gb E, i.toNat * k, none⟩)) w := by
  obtain ⟨b, cap, cur, rfl, rfl, _⟩ := h.nonnil (by omega)
  rw [gb_one]
  exact R.ixOwn hx hy hi
theorem R.ixGrN {t e' : TypeId} {k : Nat} {x y : Operand} {i : Nat} [T : CSl P t e'] [Z : CS P e' k] (hx : ev σ x = v) (h : GrF E e v xs) (hy : ev σ y = .int .i64 (i : Int)) (hi : i < xs.length) :
    Yl P σ (.indexAddr t x y) ty w (.pointer (some ⟨gb E, i * k, none⟩)) w := by
  have := R.ixGr (P := P) (ty := ty) (w := w) (t := t) hx h hy (by omega)
  simpa using this
theorem GrF.cell (S : Now w0 Sn (O1 ++ (E ++ O2)) w) (h : GrF E e v xs) {i f : Nat} {u : Value} (hi : i < xs.length) (hv : (enc (xs[i]'hi))[f]? = some u) : w.cell? ⟨gb E, i * F.k + f, none⟩ = some u := by
  obtain ⟨b, cap, cur, rfl, rfl, _, _, _, ht⟩ := h.nonnil (by omega)
  have hf : f < F.k := by rw [← F.len]; exact (List.getElem?_eq_some_iff.1 hv).1
  rw [gb_one, S.cell (pos_at b _)]
  have h2 : (fl xs)[i * F.k + f]? = some u := by rw [fl_get hi hf]; exact hv
  have hlt : i * F.k + f < xs.length * F.k := by
    have : (i + 1) * F.k ≤ xs.length * F.k := Nat.mul_le_mul_right _ hi
    rw [Nat.add_mul] at this; omega
  rw [← ht, List.getElem?_take, if_pos hlt] at h2
  simpa using h2
theorem R.loadGr (S : Now w0 Sn (O1 ++ (E ++ O2)) w) {t : TypeId} {x : Operand} {i f k : Nat} {u : Value} [T : CA P t false] (hx : ev σ x = .pointer (some ⟨gb E, i * k + f, none⟩)) (h : GrF E e v xs) (hk : F.k = k) (hi : i < xs.length) (hv : (enc (xs[i]'hi))[f]? = some u) :
    Yl P σ (.load t x) ty w u w := Yl.mk fun d pos after g => by
  have := h.cell S hi hv
  rw [hk] at this
  simp [execOp, hx, Instr.loadAt, Instr.sureAddr, loadVar, T.run, this]
theorem R.loadGr1 (S : Now w0 Sn (O1 ++ (E ++ O2)) w) {t : TypeId} {x : Operand} {i : Nat} {u : Value} [T : CA P t false] (hx : ev σ x = .pointer (some ⟨gb E, i * 1, none⟩)) (h : GrF E e v xs) (hk : F.k = 1) (hi : i < xs.length) (hv : enc (xs[i]'hi) = [u]) :
    Yl P σ (.load t x) ty w u w :=
  R.loadGr (f := 0) S (by simpa using hx) h hk hi (by rw [hv]; rfl)
theorem R.loadGrRow (S : Now w0 Sn (O1 ++ (E ++ O2)) w) {t : TypeId} {x : Operand} {i k : Nat} {u : List Value} [T : CA P t true] [Z : CS P t k] (hx : ev σ x = .pointer (some ⟨gb E, i * k, none⟩)) (h : GrF E e v xs) (hk : F.k = k) (hi : i < xs.length) (hv : enc (xs[i]'hi) = u) :
    Yl P σ (.load t x) ty w (.agg u.toArray) w := Yl.mk fun d pos after g => by
  have hl : (loadCells ⟨gb E, i * k, none⟩ u.length).run P w = .ok u.toArray w :=
    run_loadCells_list (P := P) w _ u (fun j y hy => by
      have hadd : (⟨gb E, i * k, none⟩ : Addr).add j = ⟨gb E, i * k + j, none⟩ := by unfold Addr.add; split <;> simp_all
      rw [hadd, ← hk]
      exact h.cell S hi (by rw [hv]; exact hy))
  have hlen : u.length = k := by rw [← hv, F.len, hk]
  rw [hlen] at hl
  simp [execOp, hx, Instr.loadAt, Instr.sureAddr, loadVar, T.run, Z.run, hl]
theorem fl_set {k : Nat} (hk : F.k = k) {f : Nat} (hf : f < k) {u : Value} {x' : α} : ∀ (xs : List α) (i : Nat) (hi : i < xs.length), enc x' = (enc (xs[i]'hi)).set f u → fl (xs.set i x') = (fl xs).set (i * k + f) u
  | x :: xs, 0, hi, hx' => by
    simp only [List.getElem_cons_zero] at hx'
    simp only [fl, List.set_cons_zero, List.map_cons, List.flatten_cons, Nat.zero_mul, Nat.zero_add]
    rw [List.set_append_left _ _ (by rw [F.len, hk]; exact hf), hx']
  | x :: xs, i + 1, hi, hx' => by
    have ih := fl_set hk hf xs i (by simpa using hi) (by simpa using hx')
    simp only [fl, List.set_cons_succ, List.map_cons, List.flatten_cons] at ih ⊢
    rw [ih, List.set_append_right _ _ (by rw [F.len, hk, Nat.add_mul]; omega), F.len, hk, show (i + 1) * k + f - k = i * k + f by rw [Nat.add_mul]; omega]
/-- A store of one cell into an element. -/
theorem LW.storeGr (S : Now w0 Sn (O1 ++ (E ++ O2)) w) {t : TypeId} {x y : Operand} {b i f k : Nat} {u : Value} [Z : CS P t 1] (hx : ev σ x = .pointer (some ⟨b, i * k + f, none⟩)) (hE : GrF E e v xs) (hb : gb E = b) (hk : F.k = k) (hy : ev σ y = u) (hu : u.oneCell' = true) (hf : f < k) (hi : i < xs.length)
    (x' : α) (hx' : enc x' = (enc (xs[i]'hi)).set f u)
    (k' : ∀ w' E', Now w0 Sn (O1 ++ (E' ++ O2)) w' → GrF E' e v (xs.set i x') → gb E' = b → E'.map Prod.fst = E.map Prod.fst → LW P n ops rest Q σ w') :
    LW P n ops (⟨none, .store t x y, ty, ps, after, none⟩ :: rest) Q σ w := by
  obtain ⟨g, cap, cur, rfl, rfl, h1, h2, h3, h4⟩ := hE.nonnil (by omega)
  rw [gb_one] at hb
  subst hb
  have hlt : i * k + f < xs.length * k := by
    have : (i + 1) * k ≤ xs.length * k := Nat.mul_le_mul_right _ hi
    rw [Nat.add_mul] at this; omega
  have hle : xs.length * k ≤ cap * k := Nat.mul_le_mul_right _ h1
  refine LW.store1 S O1.length hx hy hu (pos_at g _) (by rw [h3, hk]; omega) ?_
  intro w' S'
  rw [set_mid] at S'
  refine k' w' _ S' ⟨by rw [List.length_set]; exact fl_length _ |>.trans (by rw [List.length_set]), .inr ⟨g, cap, _, rfl, by rw [List.length_set], by rw [List.length_set]; exact h1, h2, by rw [Array.size_setIfInBounds]; exact h3, ?_⟩⟩ (gb_one _ _) rfl
  rw [List.length_set, Array.toList_setIfInBounds, fl_set hk hf xs i hi hx', ← h4, List.take_set]
theorem LW.storeGr1 (S : Now w0 Sn (O1 ++ (E ++ O2)) w) {t : TypeId} {x y : Operand} {b i : Nat} {u : Value} [Z : CS P t 1] (hx : ev σ x = .pointer (some ⟨b, i * 1, none⟩)) (hE : GrF E e v xs) (hb : gb E = b) (hk : F.k = 1) (hy : ev σ y = u) (hu : u.oneCell' = true) (hi : i < xs.length)
    (x' : α) (hx' : enc x' = [u])
    (k' : ∀ w' E', Now w0 Sn (O1 ++ (E' ++ O2)) w' → GrF E' e v (xs.set i x') → gb E' = b → E'.map Prod.fst = E.map Prod.fst → LW P n ops rest Q σ w') :
    LW P n ops (⟨none, .store t x y, ty, ps, after, none⟩ :: rest) Q σ w := by
  refine LW.storeGr (f := 0) S (by simpa using hx) hE hb hk hy hu (by omega) hi x' ?_ k'
  have hl : (enc (xs[i]'hi)).length = 1 := by rw [F.len, hk]
  match hq : enc (xs[i]'hi), hl with
  | [q], _ => rw [hx']; rfl
theorem fl_setRow {k : Nat} (hk : F.k = k) {x' : α} : ∀ (xs : List α) (i : Nat), i < xs.length → fl (xs.set i x') = (fl xs).take (i * k) ++ enc x' ++ (fl xs).drop (i * k + k)
  | x :: xs, 0, _ => by
    simp only [fl, List.set_cons_zero, List.map_cons, List.flatten_cons, Nat.zero_mul, Nat.zero_add, List.take_zero, List.nil_append]
    rw [List.drop_append_of_le_length (by rw [F.len, hk]; exact Nat.le_refl _), List.drop_of_length_le (by rw [F.len, hk]; exact Nat.le_refl _), List.nil_append]
  | x :: xs, i + 1, hi => by
    have ih := fl_setRow hk (x' := x') xs i (by simpa using hi)
    simp only [fl, List.set_cons_succ, List.map_cons, List.flatten_cons] at ih ⊢
    have hx : (enc x).length = k := by rw [F.len, hk]
    have h1 : List.take (i * k + k) (enc x) = enc x := List.take_of_length_le (by omega)
    have h2 : List.drop (i * k + k + k) (enc x) = [] := List.drop_of_length_le (by omega)
    rw [ih, Nat.add_mul, Nat.one_mul, List.take_append, List.drop_append, hx, h1, h2, show i * k + k - k = i * k by omega, show i * k + k + k - k = i * k + k by omega]
    simp
theorem splice (c q : List Value) {A k B D : Nat} (hc : c.length = D) (he : q.length = k) (h1 : A + k ≤ B) (h2 : B ≤ D) : (c.take A ++ q ++ c.drop (A + k)).take B = (c.take B).take A ++ q ++ (c.take B).drop (A + k) := by
  apply List.ext_getElem?
  intro j
  grind
/-- A store of a whole element. -/
theorem LW.storeGrRow (S : Now w0 Sn (O1 ++ (E ++ O2)) w) {t : TypeId} {x y : Operand} {b i k : Nat} {u : Array Value} [Z : CS P t k] (hx : ev σ x = .pointer (some ⟨b, i * k, none⟩)) (hE : GrF E e v xs) (hb : gb E = b) (hk : F.k = k) (hy : ev σ y = .agg u) (hi : i < xs.length)
    (x' : α) (hx' : u.toList = enc x')
    (k' : ∀ w' E', Now w0 Sn (O1 ++ (E' ++ O2)) w' → GrF E' e v (xs.set i x') → gb E' = b → E'.map Prod.fst = E.map Prod.fst → LW P n ops rest Q σ w') :
    LW P n ops (⟨none, .store t x y, ty, ps, after, none⟩ :: rest) Q σ w := by
  obtain ⟨g, cap, cur, rfl, rfl, h1, h2, h3, h4⟩ := hE.nonnil (by omega)
  rw [gb_one] at hb
  subst hb
  have hus : u.size = k := by have := congrArg List.length hx'; rw [F.len, hk] at this; simpa using this
  have hle : i * k + k ≤ xs.length * k := by
    have : (i + 1) * k ≤ xs.length * k := Nat.mul_le_mul_right _ hi
    rw [Nat.add_mul] at this; omega
  have hle2 : xs.length * k ≤ cap * k := Nat.mul_le_mul_right _ h1
  rw [hk] at h3 h4
  refine LW.storeMid S O1.length hx hy (pos_at g _) hus (by rw [h3]; omega) ?_ ?_
  · rw [Array.all_eq_true_iff_forall_mem]
    intro q hq
    exact F.one x' q (by rw [← hx']; simpa using hq)
  intro w' S'
  rw [set_mid] at S'
  have hcl : cur.toList.length = cap * k := by simpa using h3
  refine k' w' _ S' ⟨by rw [List.length_set]; exact fl_length _ |>.trans (by rw [List.length_set]), .inr ⟨g, cap, _, rfl, by rw [List.length_set], by rw [List.length_set]; exact h1, h2, ?_, ?_⟩⟩ (gb_one _ _) rfl
  · simp only [List.size_toArray, List.length_append, List.length_take, List.length_drop, hcl, Array.length_toList, hus, hk]
    omega
  · rw [List.length_set, fl_setRow hk xs i hi, ← h4, hk, hx']
    exact splice _ _ hcl (by rw [F.len, hk]) hle hle2
/-- A callee has written into the blocks that were lent to it. -/
theorem Now.turnE {E' : List (Nat × Obj)} {w' : World} (S : Now w0 Sn (O1 ++ (E ++ O2)) w) (hE : E'.map Prod.fst = E.map Prod.fst) (hb : BelowX (E.map Prod.fst) w w') (ho : ∀ p, p ∈ E' → w'.heap[p.1]? = some p.2) : Now w0 Sn (O1 ++ (E' ++ O2)) w' := by
  have hlen : E'.length = E.length := by have := congrArg List.length hE; simpa using this
  have hkey : ∀ (j : Nat) (p : Nat × Obj), (O1 ++ (E' ++ O2))[j]? = some p → ∃ q, (O1 ++ (E ++ O2))[j]? = some q ∧ q.1 = p.1 ∧ (p ∈ E' ∨ p = q ∧ ¬ (O1.length ≤ j ∧ j < O1.length + E.length)) := by
    intro j p hp
    rcases Nat.lt_or_ge j O1.length with h1 | h1
    · rw [List.getElem?_append_left h1] at hp
      exact ⟨p, by rw [List.getElem?_append_left h1]; exact hp, rfl, .inr ⟨rfl, by omega⟩⟩
    · rw [List.getElem?_append_right h1] at hp
      rcases Nat.lt_or_ge (j - O1.length) E'.length with h2 | h2
      · rw [List.getElem?_append_left h2] at hp
        have h3 : (E'.map Prod.fst)[j - O1.length]? = some p.1 := by rw [List.getElem?_map, hp]; rfl
        rw [hE, List.getElem?_map] at h3
        cases hq : E[j - O1.length]? with
        | none => rw [hq] at h3; cases h3
        | some q =>
          rw [hq] at h3
          exact ⟨q, by rw [List.getElem?_append_right h1, List.getElem?_append_left (by omega)]; exact hq, by simpa using h3, .inl (get_mem hp)⟩
      · rw [List.getElem?_append_right h2] at hp
        refine ⟨p, ?_, rfl, .inr ⟨rfl, by omega⟩⟩
        rw [List.getElem?_append_right h1, List.getElem?_append_right (by omega), ← hlen]; exact hp
  have hin : ∀ k, k ∈ E.map Prod.fst → ∃ j q, (O1 ++ (E ++ O2))[j]? = some q ∧ q.1 = k ∧ O1.length ≤ j ∧ j < O1.length + E.length := by
    intro k hk
    obtain ⟨q, hq, rfl⟩ := List.mem_map.1 hk
    obtain ⟨j, hj⟩ := mem_get hq
    have := (List.getElem?_eq_some_iff.1 hj).1
    exact ⟨O1.length + j, q, by rw [List.getElem?_append_right (by omega), List.getElem?_append_left (by omega), ← hj]; congr 1; omega, rfl, by omega, by omega⟩
  refine ⟨⟨hb.os.trans S.base.os, hb.tape.trans S.base.tape, hb.output.trans S.base.output, Nat.le_trans S.base.size hb.size, fun k hk hx => ?_⟩, ?_, ?_, ?_, ?_, ?_⟩
  · rw [hb.block k (Nat.lt_of_lt_of_le hk S.base.size) (fun hm => by
      obtain ⟨j, q, hq, e1, _⟩ := hin k hm
      rcases S.fresh q (get_mem hq) with h1 | h1
      · omega
      · rw [e1] at h1; exact hx h1)]
    exact S.base.block k hk hx
  · intro s hs
    refine ⟨Nat.le_trans (S.snap s hs).1 hb.size, fun k h1 h2 => ?_⟩
    rw [hb.block k (Nat.lt_of_lt_of_le h2 (S.snap s hs).1) (fun hm => by
      obtain ⟨j, q, hq, e1, _⟩ := hin k hm
      have := S.apart q (get_mem hq) s hs
      omega)]
    exact (S.snap s hs).2 k h1 h2
  · intro j p hp
    obtain ⟨q, hq, e1, h1⟩ := hkey j p hp
    rcases h1 with h1 | ⟨rfl, h1⟩
    · exact ho p h1
    · rw [hb.block _ (S.lt hq) (fun hm => by
        obtain ⟨j', q', hq', e2, h3, h4⟩ := hin _ hm
        have := S.one j' j q' p hq' hq e2
        omega)]
      exact S.own j p hq
  · intro p hp
    obtain ⟨j, hj⟩ := mem_get hp
    obtain ⟨q, hq, e1, _⟩ := hkey j p hj
    rw [← e1]; exact S.fresh q (get_mem hq)
  · intro p hp s hs
    obtain ⟨j, hj⟩ := mem_get hp
    obtain ⟨q, hq, e1, _⟩ := hkey j p hj
    rw [← e1]; exact S.apart q (get_mem hq) s hs
  · intro i j p q hp hq e1
    obtain ⟨p', hp', e2, _⟩ := hkey i p hp
    obtain ⟨q', hq', e3, _⟩ := hkey j q hq
    exact S.one i j p' q' hp' hq' (by rw [e2, e3, e1])
/-- A walk that blocks are lent to. -/
theorem Now.initE (w : World) (E : List (Nat × Obj)) (h : ∀ p, p ∈ E → w.heap[p.1]? = some p.2) (h1 : ∀ (i j : Nat) (p q : Nat × Obj), E[i]? = some p → E[j]? = some q → p.1 = q.1 → i = j) : Now ⟨w, E.map Prod.fst⟩ [] E w :=
  ⟨BelowX.refl _ _, fun s hs => by simp at hs, fun j p hp => h p (get_mem hp), fun p hp => .inr (List.mem_map.2 ⟨p, hp, rfl⟩), fun p hp s hs => by simp at hs, h1⟩
theorem GrF.one (h : GrF E e v xs) : ∀ (i j : Nat) (p q : Nat × Obj), E[i]? = some p → E[j]? = some q → p.1 = q.1 → i = j := by
  intro i j p q hp hq _
  rcases h.2 with ⟨rfl, _⟩ | ⟨g, cap, cur, rfl, _⟩
  · simp at hp
  · cases i <;> cases j <;> simp at hp hq ⊢
end
end V
end Go.Proofs.Ytaiifcnjmbpbjaa
