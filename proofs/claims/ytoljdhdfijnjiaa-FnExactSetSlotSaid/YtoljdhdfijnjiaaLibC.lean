/- What each operation yields ('R'), and the steps of a walk that use it. No condition. -/
import Derived.Test.YtoljdhdfijnjiaaLibB
import Derived.StillTail
namespace Go.Proofs.Ytoljdhdfijnjiaa
namespace V
open Flat (enc)
set_option linter.unusedVariables false
set_option linter.unusedSimpArgs false
open Go.RowKit

namespace R
section
variable {P : Program} {σ : Nat → Value} {w0 : Base} {w ws : World} {Sn : List Snap} {O : List (Nat × Obj)} {ty : TypeId}

theorem move {x : Operand} : Yl P σ (.move x) ty w ((ev σ x)) w := Yl.mk fun d pos after g => rfl
theorem assign {x : Operand} : Yl P σ (.assign x) ty w ((ev σ x)) w := Yl.mk fun d pos after g => rfl
theorem moveI {x : Operand} {q : IntKind} {m : Int} (hx : ev σ x = .int q m) : Yl P σ (.move x) ty w (.int q m) w := Yl.mk fun d pos after g => by simp [execOp, hx]
theorem assignI {x : Operand} {q : IntKind} {m : Int} (hx : ev σ x = .int q m) : Yl P σ (.assign x) ty w (.int q m) w := Yl.mk fun d pos after g => by simp [execOp, hx]
theorem moveS {x : Operand} {a : Option Addr} {l c : Nat} (hx : ev σ x = .slice a l c) : Yl P σ (.move x) ty w (.slice a l c) w := Yl.mk fun d pos after g => by simp [execOp, hx]
theorem assignS {x : Operand} {a : Option Addr} {l c : Nat} (hx : ev σ x = .slice a l c) : Yl P σ (.assign x) ty w (.slice a l c) w := Yl.mk fun d pos after g => by simp [execOp, hx]
theorem moveP {x : Operand} {a : Option Addr} (hx : ev σ x = .pointer a) : Yl P σ (.move x) ty w (.pointer a) w := Yl.mk fun d pos after g => by simp [execOp, hx]
theorem assignP {x : Operand} {a : Option Addr} (hx : ev σ x = .pointer a) : Yl P σ (.assign x) ty w (.pointer a) w := Yl.mk fun d pos after g => by simp [execOp, hx]
theorem moveB {x : Operand} {b : Bool} (hx : ev σ x = .bool b) : Yl P σ (.move x) ty w (.bool b) w := Yl.mk fun d pos after g => by simp [execOp, hx]
theorem assignB {x : Operand} {b : Bool} (hx : ev σ x = .bool b) : Yl P σ (.assign x) ty w (.bool b) w := Yl.mk fun d pos after g => by simp [execOp, hx]
theorem moveT {x : Operand} {b : ByteArray} (hx : ev σ x = .string b) : Yl P σ (.move x) ty w (.string b) w := Yl.mk fun d pos after g => by simp [execOp, hx]
theorem assignT {x : Operand} {b : ByteArray} (hx : ev σ x = .string b) : Yl P σ (.assign x) ty w (.string b) w := Yl.mk fun d pos after g => by simp [execOp, hx]
theorem moveA {x : Operand} {c : Array Value} (hx : ev σ x = .agg c) : Yl P σ (.move x) ty w (.agg c) w := Yl.mk fun d pos after g => by simp [execOp, hx]
theorem assignA {x : Operand} {c : Array Value} (hx : ev σ x = .agg c) : Yl P σ (.assign x) ty w (.agg c) w := Yl.mk fun d pos after g => by simp [execOp, hx]
theorem moveU {x : Operand} {c : Array Value} (hx : ev σ x = .tuple c) : Yl P σ (.move x) ty w (.tuple c) w := Yl.mk fun d pos after g => by simp [execOp, hx]
theorem assignU {x : Operand} {c : Array Value} (hx : ev σ x = .tuple c) : Yl P σ (.assign x) ty w (.tuple c) w := Yl.mk fun d pos after g => by simp [execOp, hx]
theorem pick_t {c x y : Operand} {b : Bool} (hc : ev σ c = .bool b) (h : b = true) : Yl P σ (.pick c x y) ty w ((ev σ x)) w := Yl.mk fun d pos after g => by
  subst h; simp [execOp, hc, asBool]
theorem pick_f {c x y : Operand} {b : Bool} (hc : ev σ c = .bool b) (h : b = false) : Yl P σ (.pick c x y) ty w ((ev σ y)) w := Yl.mk fun d pos after g => by
  subst h; simp [execOp, hc, asBool]
theorem unnot {t : TypeId} {x : Operand} {b : Bool} (hx : ev σ x = .bool b) : Yl P σ (.unOp .not t x) ty w ((.bool (!b))) w := Yl.mk fun d pos after g => by
  simp [execOp, hx, Op.unary]
theorem wrap_in {n : Int} (hb : -9223372036854775808 ≤ n ∧ n ≤ 9223372036854775807) : IntKind.i64.wrap n = n := by
  exact IntWalk.i64_in _ (by omega)
theorem neg {t : TypeId} {x : Operand} {n : Int} (hx : ev σ x = .int .i64 n) (hb : -9223372036854775808 ≤ -n ∧ -n ≤ 9223372036854775807) : Yl P σ (.unOp .neg t x) ty w ((.int .i64 (-n))) w := Yl.mk fun d pos after g => by
  have := wrap_in hb
  simp [execOp, hx, Op.unary, Op.intArith, this]
section
variable {t t' : TypeId} {x y : Operand} {m n : Int}
theorem add (hx : ev σ x = .int .i64 m) (hy : ev σ y = .int .i64 n) (hb : -9223372036854775808 ≤ m + n ∧ m + n ≤ 9223372036854775807) :
    Yl P σ (.binOp .add t x y t') ty w ((.int .i64 (m + n))) w := Yl.mk fun d pos after g => by
  simp [execOp, hx, hy, eqGuard, binOp, Op.intArith, wrap_in hb]
theorem sub (hx : ev σ x = .int .i64 m) (hy : ev σ y = .int .i64 n) (hb : -9223372036854775808 ≤ m - n ∧ m - n ≤ 9223372036854775807) :
    Yl P σ (.binOp .sub t x y t') ty w ((.int .i64 (m - n))) w := Yl.mk fun d pos after g => by
  simp [execOp, hx, hy, eqGuard, binOp, Op.intArith, wrap_in hb]
theorem mul (hx : ev σ x = .int .i64 m) (hy : ev σ y = .int .i64 n) (hb : -9223372036854775808 ≤ m * n ∧ m * n ≤ 9223372036854775807) :
    Yl P σ (.binOp .mul t x y t') ty w ((.int .i64 (m * n))) w := Yl.mk fun d pos after g => by
  simp [execOp, hx, hy, eqGuard, binOp, Op.intArith, wrap_in hb]
/-- '/' at a number that is not negative, by one that is positive. -/
theorem quo (hx : ev σ x = .int .i64 m) (hy : ev σ y = .int .i64 n) (hb : 0 ≤ m ∧ m ≤ 9223372036854775807 ∧ 1 ≤ n) :
    Yl P σ (.binOp .quo t x y t') ty w ((.int .i64 (m / n))) w := Yl.mk fun d pos after g => by
  have h0 : n ≠ 0 := by omega
  have h1 : m.tdiv n = m / n := by rw [Int.tdiv_eq_ediv_of_nonneg hb.1]
  have h2 : 0 ≤ m / n := Int.ediv_nonneg hb.1 (by omega)
  have h3 : m / n ≤ m := Int.ediv_le_self _ hb.1
  simp [execOp, hx, hy, eqGuard, binOp, Op.intDiv, h0, h1, wrap_in (show -9223372036854775808 ≤ m / n ∧ m / n ≤ 9223372036854775807 by omega)]
theorem rem (hx : ev σ x = .int .i64 m) (hy : ev σ y = .int .i64 n) (hb : 0 ≤ m ∧ 1 ≤ n) :
    Yl P σ (.binOp .rem t x y t') ty w ((.int .i64 (m % n))) w := Yl.mk fun d pos after g => by
  have h0 : n ≠ 0 := by omega
  have h1 : m.tmod n = m % n := by rw [Int.tmod_eq_emod_of_nonneg hb.1]
  simp [execOp, hx, hy, eqGuard, binOp, Op.intDiv, h0, h1]
theorem lss (hx : ev σ x = .int .i64 m) (hy : ev σ y = .int .i64 n) : Yl P σ (.binOp .lss t x y t') ty w ((.bool (decide (m < n)))) w := Yl.mk fun d pos after g => by
  simp [execOp, hx, hy, eqGuard, binOp, Op.intCmp]
theorem leq (hx : ev σ x = .int .i64 m) (hy : ev σ y = .int .i64 n) : Yl P σ (.binOp .leq t x y t') ty w ((.bool (decide (m ≤ n)))) w := Yl.mk fun d pos after g => by
  simp [execOp, hx, hy, eqGuard, binOp, Op.intCmp]
theorem gtr (hx : ev σ x = .int .i64 m) (hy : ev σ y = .int .i64 n) : Yl P σ (.binOp .gtr t x y t') ty w ((.bool (decide (n < m)))) w := Yl.mk fun d pos after g => by
  simp [execOp, hx, hy, eqGuard, binOp, Op.intCmp]
theorem geq (hx : ev σ x = .int .i64 m) (hy : ev σ y = .int .i64 n) : Yl P σ (.binOp .geq t x y t') ty w ((.bool (decide (n ≤ m)))) w := Yl.mk fun d pos after g => by
  simp [execOp, hx, hy, eqGuard, binOp, Op.intCmp]
theorem eql (hx : ev σ x = .int .i64 m) (hy : ev σ y = .int .i64 n) : Yl P σ (.binOp .eql t x y t') ty w ((.bool (decide (m = n)))) w := Yl.mk fun d pos after g => by
  simp [execOp, hx, hy, eqGuard, binOp, Op.intCmp]; rfl
theorem neq (hx : ev σ x = .int .i64 m) (hy : ev σ y = .int .i64 n) : Yl P σ (.binOp .neq t x y t') ty w ((.bool (!decide (m = n)))) w := Yl.mk fun d pos after g => by
  simp [execOp, hx, hy, eqGuard, binOp, Op.intCmp, bne]; rfl
theorem exBin {op : BinOp} {v : Value} (hg : (eqGuard op t x y (ev σ x) (ev σ y)).run P w = .ok () w) (hb : (binOp op t (ev σ x) (ev σ y)).run P w = .ok v w) :
    Yl P σ (.binOp op t x y t') ty w (v) w := Yl.mk fun d pos after g => by
  have : execOp (ev σ) ⟨d, .binOp op t x y t', ty, pos, after, g⟩ = (do let v ← (do eqGuard op t x y (ev σ x) (ev σ y); binOp op t (ev σ x) (ev σ y)); pure (.value v)) := rfl
  rw [this]; simp [hg, hb]
theorem eqBoolD {a b : Bool} (D : Nat) [T : CBo P t] : (Op.equalIn (D + 1) t (.bool a) (.bool b)).run P w = .ok (a == b) w := by
  simp [Op.equalIn, T.run]
theorem eqBool {a b : Bool} [T : CBo P t] : (Op.equal t (.bool a) (.bool b)).run P w = .ok (a == b) w := eqBoolD 9999
theorem eqSlNilD {a : Option Addr} {l c : Nat} {e : TypeId} (D : Nat) [T : CSl P t e] : (Op.equalIn (D + 1) t (.slice a l c) (.slice none 0 0)).run P w = .ok a.isNone w := by
  cases a <;> simp [Op.equalIn, T.run]
theorem eqSlNil {a : Option Addr} {l c : Nat} {e : TypeId} [T : CSl P t e] : (Op.equal t (.slice a l c) (.slice none 0 0)).run P w = .ok a.isNone w := eqSlNilD 9999
theorem eqlB {a b : Bool} [T : CBo P t] (hx : ev σ x = .bool a) (hy : ev σ y = .bool b) : Yl P σ (.binOp .eql t x y t') ty w ((.bool (a == b))) w := by
  refine exBin (by rw [hx, hy]; rfl) ?_
  rw [hx, hy]
  have : binOp .eql t (.bool a) (.bool b) = (do pure (.bool (← Op.equal t (.bool a) (.bool b)))) := rfl
  rw [this]; simp [eqBool]
theorem neqB {a b : Bool} [T : CBo P t] (hx : ev σ x = .bool a) (hy : ev σ y = .bool b) : Yl P σ (.binOp .neq t x y t') ty w ((.bool (!(a == b)))) w := by
  refine exBin (by rw [hx, hy]; rfl) ?_
  rw [hx, hy]
  have : binOp .neq t (.bool a) (.bool b) = (do pure (.bool (!(← Op.equal t (.bool a) (.bool b))))) := rfl
  rw [this]; simp [eqBool]
theorem eqlS {a b : ByteArray} (hx : ev σ x = .string a) (hy : ev σ y = .string b) : Yl P σ (.binOp .eql t x y t') ty w ((.bool (a.toList == b.toList))) w := Yl.mk fun d pos after g => by
  simp [execOp, hx, hy, eqGuard, binOp, Op.stringOp]
theorem neqS {a b : ByteArray} (hx : ev σ x = .string a) (hy : ev σ y = .string b) : Yl P σ (.binOp .neq t x y t') ty w ((.bool (!(a.toList == b.toList)))) w := Yl.mk fun d pos after g => by
  simp [execOp, hx, hy, eqGuard, binOp, Op.stringOp]
theorem lssS {a b : ByteArray} (hx : ev σ x = .string a) (hy : ev σ y = .string b) : Yl P σ (.binOp .lss t x y t') ty w ((.bool (Op.bytesLess a.toList b.toList))) w := Yl.mk fun d pos after g => by
  simp [execOp, hx, hy, eqGuard, binOp, Op.stringOp]
theorem addS {a b : ByteArray} (hx : ev σ x = .string a) (hy : ev σ y = .string b) (hb : a.size + b.size ≤ 9223372036854775807) : Yl P σ (.binOp .add t x y t') ty w ((.string (a ++ b))) w := by
  have : ¬ (((a.size + b.size : Nat) : Int) > IntKind.i64.max) := by simp [IntKind.max, IntKind.signed, IntKind.bits]; omega
  refine exBin (by rw [hx, hy]; rfl) ?_
  rw [hx, hy]
  have e : binOp .add t (.string a) (.string b) = Op.stringOp .add a b := rfl
  rw [e, Op.stringOp, if_neg this]; rfl
theorem eqlNil {a : Option Addr} {l c : Nat} {e : TypeId} [T : CSl P t e] (hx : ev σ x = .slice a l c) (hy : ev σ y = .slice none 0 0) : Yl P σ (.binOp .eql t x y t') ty w ((.bool a.isNone)) w := by
  refine exBin (by rw [hx, hy]; rfl) ?_
  rw [hx, hy]
  have : binOp .eql t (.slice a l c) (.slice none 0 0) = (do pure (.bool (← Op.equal t (.slice a l c) (.slice none 0 0)))) := rfl
  rw [this]; simp [eqSlNil]
end
theorem lenSl {t e : TypeId} {x : Operand} {a : Option Addr} {l c : Nat} [T : CSl P t e] (hx : ev σ x = .slice a l c) :
    Yl P σ (.call { callee := .builtin .len, args := #[x], argTypes := #[t] }) ty w ((.int .i64 (l : Int))) w := Yl.mk fun d pos after g => by
  simp [execOp, resolve, invoke, builtin, Builtin.len_, hx, T.run, goInt]
theorem lenSt {t : TypeId} {x : Operand} {s : ByteArray} [T : CSt P t] (hx : ev σ x = .string s) :
    Yl P σ (.call { callee := .builtin .len, args := #[x], argTypes := #[t] }) ty w ((.int .i64 (s.size : Int))) w := Yl.mk fun d pos after g => by
  simp [execOp, resolve, invoke, builtin, Builtin.len_, hx, T.run, goInt]
theorem max2 {t t' : TypeId} {x y : Operand} {m n : Int} (hx : ev σ x = .int .i64 m) (hy : ev σ y = .int .i64 n) :
    Yl P σ (.call { callee := .builtin .max, args := #[x, y], argTypes := #[t, t'] }) ty w ((.int .i64 (max m n))) w := Yl.mk fun d pos after g => by
  by_cases h : m < n
  · have : max m n = n := by omega
    simp [execOp, resolve, invoke, builtin, Builtin.max_, Builtin.max2, hx, hy, this, h]
  · have : max m n = m := by omega
    simp [execOp, resolve, invoke, builtin, Builtin.max_, Builtin.max2, hx, hy, this, h]
theorem min2 {t t' : TypeId} {x y : Operand} {m n : Int} (hx : ev σ x = .int .i64 m) (hy : ev σ y = .int .i64 n) :
    Yl P σ (.call { callee := .builtin .min, args := #[x, y], argTypes := #[t, t'] }) ty w ((.int .i64 (min m n))) w := Yl.mk fun d pos after g => by
  by_cases h : n < m
  · have : min m n = n := by omega
    simp [execOp, resolve, invoke, builtin, Builtin.min_, Builtin.min2, hx, hy, this, h]
  · have : min m n = m := by omega
    simp [execOp, resolve, invoke, builtin, Builtin.min_, Builtin.min2, hx, hy, this, h]
theorem nilCheck {x : Operand} {a : Addr} (hx : ev σ x = .pointer (some a)) : Yl P σ (.nilCheck x) ty w ((.pointer (some a))) w := Yl.mk fun d pos after g => by
  simp [execOp, hx]
theorem extract {x : Operand} {i : Nat} {vs : Array Value} {v : Value} (hx : ev σ x = .tuple vs) (hv : vs[i]? = some v) : Yl P σ (.extract x i) ty w (v) w := Yl.mk fun d pos after g => by
  simp [execOp, hx, Instr.extract, hv]
theorem u8int {s t : TypeId} {x : Operand} {n : Nat} [T : CIn P t] (hs : ∀ w, ∃ d, (underlying s).run P w = .ok d w) (hx : ev σ x = .int .u8 n) (hn : n < 256) : Yl P σ (.convert s t x) ty w ((.int .i64 n)) w := Yl.mk fun d pos after g => by
  obtain ⟨q, hq⟩ := hs w
  have := wrap_in (n := (n : Int)) (by omega)
  cases q <;> simp [execOp, hx, convert, hq, T.run, Conv.intToInt, this]
theorem makeFunc {fn : Fn} {c : Array Operand} {cs : Array Value} (hc : c.map (ev σ) = cs) : Yl P σ (.makeFunc fn #[] c) ty w ((.func fn #[] cs)) w := Yl.mk fun d pos after g => by
  simp [execOp, Instr.makeFunc, hc]

/-! Addresses. -/
theorem fieldOwn {t : TypeId} {x : Operand} {f off b k : Nat} [T : CF P t f off] (hx : ev σ x = .pointer (some ⟨b, k, none⟩)) :
    Yl P σ (.fieldAddr t x f) ty w ((.pointer (some ⟨b, k + off, none⟩))) w := Yl.mk fun d pos after g => by
  have : (Addr.add ⟨b, k, none⟩ off) = ⟨b, k + off, none⟩ := by unfold Addr.add; split <;> simp_all
  simp [execOp, hx, T.run, this]
theorem fieldEa {t : TypeId} {x : Operand} {f off k : Nat} {a : Option Addr} [T : CF P t f off] (hx : ev σ x = .pointer (some (ea a k))) :
    Yl P σ (.fieldAddr t x f) ty w ((.pointer (some (ea a (k + off))))) w := Yl.mk fun d pos after g => by
  simp [execOp, hx, T.run, ea_add]
/-- An element's address in a slice that is read. -/
theorem ixEa {α : Type} [F : Flat α] {t e : TypeId} {k : Nat} {x y : Operand} {a : Option Addr} {xs : List α} {cap : Nat} {i : Int} {lo hi : Nat} [T : CSl P t e] [Z : CS P e k]
    (hx : ev σ x = .slice a xs.length cap) (hy : ev σ y = .int .i64 i) (hs : SlF lo hi ws a xs) (hi : 0 ≤ i ∧ i < xs.length) :
    Yl P σ (.indexAddr t x y) ty w ((.pointer (some (ea a (i.toNat * k))))) w := Yl.mk fun d pos after g => by
  rcases hs with h | ⟨b, off, rfl, _⟩
  · simp at h; subst h; simp at hi; omega
  · have : Addr.add ⟨b, off, none⟩ (i.toNat * k) = ⟨b, off + i.toNat * k, none⟩ := by unfold Addr.add; split <;> simp_all
    simp [execOp, hx, hy, Instr.indexAt, asIntOf, T.run, Z.run, hi, this, ea_some]
theorem ixEaN {α : Type} [F : Flat α] {t e : TypeId} {k : Nat} {x y : Operand} {a : Option Addr} {xs : List α} {cap : Nat} {i : Nat} {lo hi : Nat} [T : CSl P t e] [Z : CS P e k]
    (hx : ev σ x = .slice a xs.length cap) (hy : ev σ y = .int .i64 (i : Int)) (hs : SlF lo hi ws a xs) (hi : i < xs.length) :
    Yl P σ (.indexAddr t x y) ty w (.pointer (some (ea a (i * k)))) w := by
  have := ixEa (P := P) (ty := ty) (w := w) (t := t) (x := x) (y := y) (cap := cap) (i := (i : Int)) hx hy hs (by omega)
  simpa using this
theorem ixG {t e : TypeId} {k : Nat} {x y : Operand} {a : Option Addr} {rows : List (List Value)} {cap : Nat} {i : Int} {n : Nat} {lo hi : Nat} [T : CSl P t e] [Z : CS P e k]
    (hx : ev σ x = .slice a n cap) (hy : ev σ y = .int .i64 i) (hs : SlG lo hi ws a rows) (hn : rows.length = n) (hi : 0 ≤ i ∧ i < n) :
    Yl P σ (.indexAddr t x y) ty w ((.pointer (some (ea a (i.toNat * k))))) w := Yl.mk fun d pos after g => by
  rcases hs with h | ⟨b, off, rfl, _⟩
  · subst h; simp at hn; omega
  · have : Addr.add ⟨b, off, none⟩ (i.toNat * k) = ⟨b, off + i.toNat * k, none⟩ := by unfold Addr.add; split <;> simp_all
    simp [execOp, hx, hy, Instr.indexAt, asIntOf, T.run, Z.run, hi, this, ea_some]
/-- An element's address in a slice at the head of a block of the call's own. -/
theorem ixOwn {t e : TypeId} {k : Nat} {x y : Operand} {b len cap : Nat} {i : Int} [T : CSl P t e] [Z : CS P e k]
    (hx : ev σ x = .slice (some ⟨b, 0, none⟩) len cap) (hy : ev σ y = .int .i64 i) (hi : 0 ≤ i ∧ i < len) :
    Yl P σ (.indexAddr t x y) ty w ((.pointer (some ⟨b, i.toNat * k, none⟩))) w := Yl.mk fun d pos after g => by
  have : Addr.add ⟨b, 0, none⟩ (i.toNat * k) = ⟨b, i.toNat * k, none⟩ := by unfold Addr.add; split <;> simp_all
  simp [execOp, hx, hy, Instr.indexAt, asIntOf, T.run, Z.run, hi, this]
/-- An element's address in an array variable of the call's own. -/
theorem ixArr {t e : TypeId} {k n : Nat} {x y : Operand} {b : Nat} {i : Int} [T : CAr P t n e] [Z : CS P e k]
    (hx : ev σ x = .pointer (some ⟨b, 0, none⟩)) (hy : ev σ y = .int .i64 i) (hi : 0 ≤ i ∧ i < n) :
    Yl P σ (.indexAddr t x y) ty w ((.pointer (some ⟨b, i.toNat * k, none⟩))) w := Yl.mk fun d pos after g => by
  have : Addr.add ⟨b, 0, none⟩ (i.toNat * k) = ⟨b, i.toNat * k, none⟩ := by unfold Addr.add; split <;> simp_all
  simp [execOp, hx, hy, Instr.indexAt, asIntOf, T.run, Z.run, hi, this, Instr.sureAddr]
theorem ixStr {t : TypeId} {x y : Operand} {s : ByteArray} {i : Int} [T : CSt P t] (hx : ev σ x = .string s) (hy : ev σ y = .int .i64 i) (hi : 0 ≤ i ∧ i.toNat < s.size) :
    Yl P σ (.index t x y) ty w ((.int .u8 ((s[i.toNat]'hi.2).toNat : Nat))) w := Yl.mk fun d pos after g => by
  simp [execOp, hx, hy, Instr.index, asIntOf, T.run, hi.1, getElem?_pos, hi.2]

/-! Loads. -/
theorem loadOwn (S : Now w0 Sn O w) (i : Nat) {t : TypeId} {x : Operand} {b k : Nat} {cs : Array Value} {T' : TypeId} {fr : Nat × Nat} {v : Value} [T : CA P t false]
    (hx : ev σ x = .pointer (some ⟨b, k, none⟩)) (hO : O[i]? = some (b, .cells cs T' fr)) (hv : cs[k]? = some v) :
    Yl P σ (.load t x) ty w (v) w := Yl.mk fun d pos after g => by
  have := S.cell (k := k) hO
  rw [hv] at this
  simp [execOp, hx, Instr.loadAt, Instr.sureAddr, loadVar, T.run, this]
theorem loadRow (S : Now w0 Sn O w) (i : Nat) {t : TypeId} {x : Operand} {b : Nat} {cs : Array Value} {T' : TypeId} {fr : Nat × Nat} {n : Nat} [T : CA P t true] [Z : CS P t n]
    (hx : ev σ x = .pointer (some ⟨b, 0, none⟩)) (hO : O[i]? = some (b, .cells cs T' fr)) (hn : cs.size = n) :
    Yl P σ (.load t x) ty w ((.agg cs)) w := Yl.mk fun d pos after g => by
  have hl : (loadCells ⟨b, 0, none⟩ cs.toList.length).run P w = .ok cs.toList.toArray w :=
    run_loadCells_list (P := P) w ⟨b, 0, none⟩ cs.toList (fun j v hv => by
      have hadd : (⟨b, 0, none⟩ : Addr).add j = ⟨b, j, none⟩ := by unfold Addr.add; split <;> simp_all
      rw [hadd, S.cell hO]; simpa using hv)
  simp only [Array.length_toList, Array.toArray_toList] at hl
  simp [execOp, hx, Instr.loadAt, Instr.sureAddr, loadVar, T.run, Z.run, ← hn, hl]
theorem RVrow (S : Now w0 Sn O w) (i : Nat) {t : Nat} {T : TypeId} {b n : Nat} {cs : Array Value} {T' : TypeId} {fr : Nat × Nat} {r : List ResultVar} {vs : List Value} [Y : CA P T true] [Z : CS P T n]
    (ht : σ t = .pointer (some ⟨b, 0, none⟩)) (hO : O[i]? = some (b, .cells cs T' fr)) (hn : cs.size = n) (h : RV P σ w r vs) : RV P σ w (.cell t T :: r) (.agg cs :: vs) := by
  refine .cell ht ?_ h
  have hl : (loadCells ⟨b, 0, none⟩ cs.toList.length).run P w = .ok cs.toList.toArray w :=
    run_loadCells_list (P := P) w ⟨b, 0, none⟩ cs.toList (fun j v hv => by
      have hadd : (⟨b, 0, none⟩ : Addr).add j = ⟨b, j, none⟩ := by unfold Addr.add; split <;> simp_all
      rw [hadd, S.cell hO]; simpa using hv)
  simp only [Array.length_toList, Array.toArray_toList] at hl
  simp [loadVar, Y.run, Z.run, ← hn, hl]
theorem load_ea {rows : List (List Value)} {lo hi k : Nat} {a : Option Addr} (S : Now w0 Sn O w) (hs : SlG lo hi ws a rows) (hm : Snap.mk lo hi ws ∈ Sn) (hk : ∀ r, r ∈ rows → r.length = k) {t : TypeId} {i f : Nat} {r : List Value} {v : Value} [T : CA P t false]
    (hr : rows[i]? = some r) (hv : r[f]? = some v) : (loadVar t (ea a (i * k + f))).run P w = .ok v w := by
  have h := (SlG.now S hm hs).get hk hr hv
  simp [loadVar, T.run, h]
/-- A field of an element of a slice that is read. -/
theorem loadFld {α : Type} [F : Flat α] (S : Now w0 Sn O w) {t : TypeId} {x : Operand} {a : Option Addr} {xs : List α} {lo hi i f k : Nat} {v : Value} [T : CA P t false]
    (hx : ev σ x = .pointer (some (ea a (i * k + f)))) (hs : SlF lo hi ws a xs) (hm : Snap.mk lo hi ws ∈ Sn) (hk : F.k = k) (hi : i < xs.length) (hv : (enc (xs[i]'hi))[f]? = some v) :
    Yl P σ (.load t x) ty w (v) w := Yl.mk fun d pos after g => by
  have := load_ea (P := P) (t := t) (v := v) S hs hm (k := k) (fun r hr => by obtain ⟨y, _, rfl⟩ := List.mem_map.1 hr; rw [F.len, hk]) (i := i) (f := f) (r := enc (xs[i]'hi)) (by simp [hi]) hv
  simp [execOp, hx, Instr.loadAt, Instr.sureAddr, this]
/-- An element of one cell. -/
theorem loadEl1 {α : Type} [F : Flat α] (S : Now w0 Sn O w) {t : TypeId} {x : Operand} {a : Option Addr} {xs : List α} {lo hi i : Nat} {v : Value} [T : CA P t false]
    (hx : ev σ x = .pointer (some (ea a (i * 1)))) (hs : SlF lo hi ws a xs) (hm : Snap.mk lo hi ws ∈ Sn) (hk : F.k = 1) (hi : i < xs.length) (hv : enc (xs[i]'hi) = [v]) :
    Yl P σ (.load t x) ty w (v) w := 
  loadFld (f := 0) S (by simpa using hx) hs hm hk hi (by rw [hv]; rfl)
/-- A whole element. -/
theorem loadEl {α : Type} [F : Flat α] (S : Now w0 Sn O w) {t : TypeId} {x : Operand} {a : Option Addr} {xs : List α} {lo hi i k : Nat} {v : List Value} [T : CA P t true] [Z : CS P t k]
    (hx : ev σ x = .pointer (some (ea a (i * k)))) (hs : SlF lo hi ws a xs) (hm : Snap.mk lo hi ws ∈ Sn) (hk : F.k = k) (hi : i < xs.length) (hv : enc (xs[i]'hi) = v) :
    Yl P σ (.load t x) ty w ((.agg v.toArray)) w := Yl.mk fun d pos after g => by
  have hs' : SlG 0 w.heap.size w a (xs.map enc) := SlF.now S hm hs
  have hl : (loadCells (ea a (i * k)) v.length).run P w = .ok v.toArray w :=
    run_loadCells_list (P := P) w _ v (fun j u hu => by
      rw [ea_add]
      exact hs'.get (k := k) (fun r hr => by obtain ⟨y, _, rfl⟩ := List.mem_map.1 hr; rw [F.len, hk]) (r := v) (by simp [hi, hv]) hu)
  have hlen : v.length = k := by rw [← hv, F.len, hk]
  rw [hlen] at hl
  simp [execOp, hx, Instr.loadAt, Instr.sureAddr, loadVar, T.run, Z.run, hl]
end
end R

section
variable {P : Program} {n : Nat} {Q : Post} {σ : Nat → Value} {w0 : Base} {w ws : World} {Sn : List Snap} {O : List (Nat × Obj)} {ops : Array Oper} {rest : List Oper} {d : Nat} {ty : TypeId} {pos : String} {after : Array Edge}

/-! ### Steps that turn memory -/
theorem LW.alloc (S : Now w0 Sn O w) {t : TypeId} {z : Value} [Z : CZ P t z] (hd : Nat.blt d n = true)
    (k : ∀ b w', Now w0 Sn ((b, .cells z.cells t) :: O) w' → LW P n ops rest Q (upd σ d (.pointer (some ⟨b, 0, none⟩))) w') :
    LW P n ops (⟨some d, .alloc t, ty, pos, after, none⟩ :: rest) Q σ w :=
  LW.op hd (w' := w.alloc (.cells z.cells t)) (v := .pointer (some ⟨w.heap.size, 0, none⟩)) (Yl.mk fun d pos after g => by simp [execOp, Instr.alloc, Z.run, newVar, newRow]) (k _ _ (S.alloc _))
theorem LW.box (S : Now w0 Sn O w) {t : TypeId} {x : Operand} {v : Value} {cs : Array Value} (hd : Nat.blt d n = true) (hx : ev σ x = v) (hv : v.cells = cs)
    (k : ∀ b w', Now w0 Sn ((b, .cells cs t) :: O) w' → LW P n ops rest Q (upd σ d (.pointer (some ⟨b, 0, none⟩))) w') :
    LW P n ops (⟨some d, .box t x, ty, pos, after, none⟩ :: rest) Q σ w :=
  LW.op hd (w' := w.alloc (.cells cs t)) (v := .pointer (some ⟨w.heap.size, 0, none⟩)) (Yl.mk fun d pos after g => by subst hv; subst hx; simp [execOp, Instr.box, newVar, newRow]) (k _ _ (S.alloc _))
/-- A store of one cell into a block of the call's own. -/
theorem LW.store1 (S : Now w0 Sn O w) (i : Nat) {t : TypeId} {x y : Operand} {b j : Nat} {cs : Array Value} {T' : TypeId} {v : Value} [Z : CS P t 1] (hx : ev σ x = .pointer (some ⟨b, j, none⟩)) (hy : ev σ y = v) (hv : v.oneCell' = true)
    (hO : O[i]? = some (b, .cells cs T' (0, 0))) (hj : j < cs.size)
    (k : ∀ w', Now w0 Sn (O.set i (b, .cells (cs.setIfInBounds j v) T' (0, 0))) w' → LW P n ops rest Q σ w') :
    LW P n ops (⟨none, .store t x y, ty, pos, after, none⟩ :: rest) Q σ w := by
  refine LW.op0 (w' := w.setRow b (cs.setIfInBounds j v)) ?_ (k _ (S.setRow hO _))
  have hc : v.cells = #[v] := by cases v <;> first | rfl | simp [Value.oneCell'] at hv
  have h := run_storeCells_at P b j T' [v] 0 cs w (S.own i _ hO) (by simp; omega) (by simp [hv])
  have e : (cs.toList.take (j + 0) ++ [v] ++ cs.toList.drop (j + 0 + [v].length)).toArray = cs.setIfInBounds j v := by
    apply Array.ext'
    simp only [Nat.add_zero, List.length_cons, List.length_nil, Nat.zero_add, Array.toList_setIfInBounds]
    rw [List.set_eq_take_append_cons_drop, if_pos (by simpa using hj)]
    simp
  rw [e] at h
  simp only [execOp, hx, hy, Instr.storeAt, Instr.sureAddr, Sem.run_bind, Sem.run_pure, Result.andThen_ok, storeVar, hc, Z.run]
  simp [h]
/-- A store of a whole variable. -/
theorem LW.storeRow (S : Now w0 Sn O w) (i : Nat) {t : TypeId} {x y : Operand} {b : Nat} {cs vs : Array Value} {T' : TypeId} {m : Nat} [Z : CS P t m] (hx : ev σ x = .pointer (some ⟨b, 0, none⟩)) (hy : ev σ y = .agg vs)
    (hO : O[i]? = some (b, .cells cs T' (0, 0))) (hm : vs.size = m) (hc : cs.size = m) (hv : vs.all (·.oneCell') = true)
    (k : ∀ w', Now w0 Sn (O.set i (b, .cells vs T' (0, 0))) w' → LW P n ops rest Q σ w') :
    LW P n ops (⟨none, .store t x y, ty, pos, after, none⟩ :: rest) Q σ w := by
  refine LW.op0 (w' := w.setRow b vs) ?_ (k _ (S.setRow hO _))
  have h := run_storeCells_at P b 0 T' vs.toList 0 cs w (S.own i _ hO) (by simp; omega) (fun v hv' => (Array.all_eq_true_iff_forall_mem.1 hv) v (by simpa using hv'))
  have e : (cs.toList.take (0 + 0) ++ vs.toList ++ cs.toList.drop (0 + 0 + vs.toList.length)).toArray = vs := by
    apply Array.ext'
    simp; omega
  rw [e] at h
  simp only [execOp, hx, hy, Instr.storeAt, Instr.sureAddr, Sem.run_bind, Sem.run_pure, Result.andThen_ok, storeVar, Value.cells, Z.run]
  simp [h, hm]
/-- A store of several cells into the midst of a block of the call's own. -/
theorem LW.storeMid (S : Now w0 Sn O w) (i : Nat) {t : TypeId} {x y : Operand} {b j : Nat} {cs vs : Array Value} {T' : TypeId} {m : Nat} [Z : CS P t m] (hx : ev σ x = .pointer (some ⟨b, j, none⟩)) (hy : ev σ y = .agg vs)
    (hO : O[i]? = some (b, .cells cs T' (0, 0))) (hm : vs.size = m) (hc : j + m ≤ cs.size) (hv : vs.all (·.oneCell') = true)
    (k : ∀ w', Now w0 Sn (O.set i (b, .cells (cs.toList.take j ++ vs.toList ++ cs.toList.drop (j + m)).toArray T' (0, 0))) w' → LW P n ops rest Q σ w') :
    LW P n ops (⟨none, .store t x y, ty, pos, after, none⟩ :: rest) Q σ w := by
  refine LW.op0 (w' := w.setRow b (cs.toList.take j ++ vs.toList ++ cs.toList.drop (j + m)).toArray) ?_ (k _ (S.setRow hO _))
  have h := run_storeCells_at P b j T' vs.toList 0 cs w (S.own i _ hO) (by simp; omega) (fun v hv' => (Array.all_eq_true_iff_forall_mem.1 hv) v (by simpa using hv'))
  simp only [Nat.add_zero, Array.length_toList, hm] at h
  simp only [execOp, hx, hy, Instr.storeAt, Instr.sureAddr, Sem.run_bind, Sem.run_pure, Result.andThen_ok, storeVar, Value.cells, Z.run]
  simp [h, hm]
theorem run_fcall {f : FuncId} {xs : List Operand} {ats : Array TypeId} {args : List Value} {dd : Option Nat} {gu : Option (Nat × Bool)} (hr : ∀ args w, (callFunc f args).run P w = .ok (.enter f args) w) (ha : xs.map (ev σ) = args) :
    (execOp (ev σ) ⟨dd, .call { callee := .value (.func f), args := xs.toArray, argTypes := ats }, ty, pos, after, gu⟩).run P w = .ok (.enter f args.toArray) w := by
  have := hr args.toArray w
  subst ha
  simp only [execOp, resolve, ev, Deferred.ofValue, Sem.run_bind, Sem.run_pure, Result.andThen_ok, invoke] at this ⊢
  simpa using this
/-- A call of a function by its contract: what it makes is kept as a snapshot. -/
theorem LW.callC (S : Now w0 Sn O w) {f : FuncId} {xs : List Operand} {ats : Array TypeId} {args : List Value} {R : Value → World → Prop} (hd : Nat.blt d n = true)
    (hr : ∀ args w, (callFunc f args).run P w = .ok (.enter f args) w) (ha : xs.map (ev σ) = args)
    (hc : Calls P f args.toArray w fun e w' => ∃ v, e = .returned v ∧ R v w' ∧ Below w.heap.size w w')
    (k : ∀ v w', R v w' → Bd w0 w.heap.size Sn O → Now w0 (⟨w.heap.size, w'.heap.size, w'⟩ :: Sn) O w' → LW P n ops rest Q (upd σ d v) w') :
    LW P n ops (⟨some d, .call { callee := .value (.func f), args := xs.toArray, argTypes := ats }, ty, pos, after, none⟩ :: rest) Q σ w := by
  refine LW.call hd (f := f) (args := args.toArray) (run_fcall hr ha) hc ?_
  · rintro e w' ⟨v, rfl, hR, hb⟩
    exact ⟨v, rfl, k v w' hR S.bd (S.snapAdd hb)⟩
/-- A call that writes into one of the blocks of the caller's own. -/
theorem LW.callX (S : Now w0 Sn O w) (i : Nat) {f : FuncId} {xs : List Operand} {ats : Array TypeId} {args : List Value} {R : Value → Obj → World → Prop} {rb : Nat} {o : Obj} (hd : Nat.blt d n = true)
    (hr : ∀ args w, (callFunc f args).run P w = .ok (.enter f args) w) (ha : xs.map (ev σ) = args) (hO : O[i]? = some (rb, o))
    (hc : Calls P f args.toArray w fun e w' => ∃ v o', e = .returned v ∧ R v o' w' ∧ w'.heap[rb]? = some o' ∧ BelowX [rb] w w')
    (k : ∀ v o' w', R v o' w' → Bd w0 w.heap.size Sn (O.set i (rb, o')) → Now w0 (⟨w.heap.size, w'.heap.size, w'⟩ :: Sn) (O.set i (rb, o')) w' → LW P n ops rest Q (upd σ d v) w') :
    LW P n ops (⟨some d, .call { callee := .value (.func f), args := xs.toArray, argTypes := ats }, ty, pos, after, none⟩ :: rest) Q σ w := by
  refine LW.call hd (f := f) (args := args.toArray) (run_fcall hr ha) hc ?_
  rintro e w' ⟨v, o', rfl, hR, ho, hb⟩
  have hB := S.bd.set (o' := o') hO
  exact ⟨v, rfl, k v o' w' hR hB ((S.turn hO hb ho).snapX hB)⟩
end

/-! ### Regions that draw their order and only read -/
section
variable {P : Program} {n : Nat} {Q : Post} {σ : Nat → Value} {w0 : Base} {w ws : World} {Sn : List Snap} {O : List (Nat × Obj)} {ops : Array Oper} {rest : List Oper} {ty : TypeId} {pos : String} {after : Array Edge}
structure QW (P : Program) (n : Nat) (ops : Array Oper) (C : World → Prop) (l : List Oper) (K : (Nat → Value) → Prop) (σ : Nat → Value) : Prop where
  h : ∀ a, Rp n a σ → wpQuiet P ops C (fun a => ∃ σ, Rp n a σ ∧ K σ) l a
theorem QW.nil {C : World → Prop} {K : (Nat → Value) → Prop} (h : K σ) : QW P n ops C [] K σ := ⟨fun a ha => wpQuiet_nil ⟨σ, ha, h⟩⟩
theorem QW.op {C : World → Prop} {K : (Nat → Value) → Prop} {d : Nat} {op : Op} {v : Value} (hd : Nat.blt d n = true)
    (hr : ∀ w, C w → Yl P σ op ty w v w) (k : QW P n ops C rest K (upd σ d v)) :
    QW P n ops C (⟨some d, op, ty, pos, after, none⟩ :: rest) K σ := by
  constructor
  intro a ha
  refine wpQuiet_step fun K' hK => ?_
  simp only [Region.wanted, if_true]
  refine ⟨v, fun w hw => ?_, hK _ (k.h _ (ha.put d v hd))⟩
  unfold Oper.quietAt
  rw [ha.eval, (hr w hw).run]
  exact ⟨rfl, rfl⟩
theorem QW.call {C : World → Prop} {K : (Nat → Value) → Prop} {d : Nat} {f : FuncId} {xs : List Operand} {ats : Array TypeId} {args : List Value} {v : Value} (hd : Nat.blt d n = true)
    (hr : ∀ args w, (callFunc f args).run P w = .ok (.enter f args) w) (ha : xs.map (ev σ) = args)
    (hc : ∀ w, C w → Calls P f args.toArray w fun e w' => e = .returned v ∧ C w')
    (k : QW P n ops C rest K (upd σ d v)) :
    QW P n ops C (⟨some d, .call { callee := .value (.func f), args := xs.toArray, argTypes := ats }, ty, pos, after, none⟩ :: rest) K σ := by
  constructor
  intro a hA
  refine wpQuiet_step fun K' hK => ?_
  simp only [Region.wanted, if_true]
  refine ⟨v, fun w hw => ?_, hK _ (k.h _ (hA.put d v hd))⟩
  unfold Oper.quietAt
  rw [hA.eval]
  have e := run_fcall (P := P) (σ := σ) (dd := some d) (ats := ats) (ty := ty) (pos := pos) (after := after) (gu := none) (w := w) hr ha
  rw [e]
  exact ⟨rfl, hc w hw⟩
theorem QW.guard {C : World → Prop} {K : (Nat → Value) → Prop} {d : Option Nat} {op : Op} {j : Nat} {want b : Bool}
    (hg : gd ops σ j = some (.bool b)) (hd : (match d with | some d => Nat.blt d n | none => true) = true)
    (h1 : b = want → QW P n ops C (⟨d, op, ty, pos, after, none⟩ :: rest) K σ)
    (h2 : b = (!want) → QW P n ops C rest K (V.put σ d undef)) :
    QW P n ops C (⟨d, op, ty, pos, after, some (j, want)⟩ :: rest) K σ := by
  constructor
  intro a ha
  have hy := gd_yield ha hg
  have hw : Region.wanted ⟨d, op, ty, pos, after, some (j, want)⟩ (yielded ops a.tmps) = (b == want) := by
    simp [Region.wanted, hy]
  unfold wpQuiet
  rw [hw]
  by_cases e : b = want
  · have := (h1 e).h a ha
    unfold wpQuiet at this
    simp only [Region.wanted, if_true] at this
    rw [if_pos (by simp [e])]
    exact this
  · have e2 : b = !want := by cases b <;> cases want <;> simp_all
    rw [if_neg (by simp [e])]
    cases d with
    | none => exact (h2 e2).h a ha
    | some d => exact (h2 e2).h _ (ha.put d undef hd)
theorem QW.guard_on {C : World → Prop} {K : (Nat → Value) → Prop} {d : Option Nat} {op : Op} {j : Nat} {want b : Bool}
    (hg : gd ops σ j = some (.bool b)) (hd : (match d with | some d => Nat.blt d n | none => true) = true) (hb : b = want)
    (h1 : QW P n ops C (⟨d, op, ty, pos, after, none⟩ :: rest) K σ) :
    QW P n ops C (⟨d, op, ty, pos, after, some (j, want)⟩ :: rest) K σ :=
  QW.guard hg hd (fun _ => h1) (fun e => by rw [e] at hb; cases want <;> simp at hb)
theorem QW.guard_off {C : World → Prop} {K : (Nat → Value) → Prop} {d : Option Nat} {op : Op} {j : Nat} {want b : Bool}
    (hg : gd ops σ j = some (.bool b)) (hd : (match d with | some d => Nat.blt d n | none => true) = true) (hb : b = !want)
    (h2 : QW P n ops C rest K (V.put σ d undef)) :
    QW P n ops C (⟨d, op, ty, pos, after, some (j, want)⟩ :: rest) K σ :=
  QW.guard hg hd (fun e => by rw [e] at hb; cases want <;> simp at hb) (fun _ => h2)
def lastStore (l : List Oper) : Bool := match l.getLast? with | some ⟨none, _, _, _, _, _⟩ => true | _ => false
theorem QW.kOp {C : World → Prop} {K : (Nat → Value) → Prop} {o : Oper} (h : QW P n ops C (o :: rest) K σ) : QW P n ops C (o :: rest) K σ := h
theorem QW.kCal {C : World → Prop} {K : (Nat → Value) → Prop} {f : FuncId} {xs : Array Operand} {ats : Array TypeId} {dd : Option Nat} (h : QW P n ops C (⟨dd, .call { callee := .value (.func f), args := xs, argTypes := ats }, ty, pos, after, none⟩ :: rest) K σ) : QW P n ops C (⟨dd, .call { callee := .value (.func f), args := xs, argTypes := ats }, ty, pos, after, none⟩ :: rest) K σ := h
theorem CW.quiet {id : Nat} {l : List Oper} (S : Now w0 Sn O w) (hl : lastStore l = false) (hm : P.follows .mixedOrders = true) (hB : Region.lexB .any l.toArray = true)
    (h : QW P n l.toArray (Now w0 Sn O) l (fun σ' => ∀ w', Now w0 Sn O w' → Q .normal σ' w') σ) : CW P n (.region id l.toArray true) Q σ w := by
  constructor
  intro a ha
  refine wp_region_quiet (C := Now w0 Sn O) hm hB S.draw ?_
  refine h.h a ha |> fun h => ?_
  have hmono : ∀ (l' : List Oper) (a : Act), wpQuiet P l.toArray (Now w0 Sn O) (fun a => ∃ σ, Rp n a σ ∧ ∀ w', Now w0 Sn O w' → Q .normal σ w') l' a → wpQuiet P l.toArray (Now w0 Sn O) (fun a => ∀ w, Now w0 Sn O w → lift n Q .normal a w) l' a := by
    intro l'
    induction l' with
    | nil => intro a ⟨s, hs, hq⟩; exact fun w hw => ⟨s, hs, hq w hw⟩
    | cons o rest ih =>
      intro a h
      unfold wpQuiet at h ⊢
      split
      · rename_i hw; rw [if_pos hw] at h; exact Oper.quiet_mono (fun a => ih a) h
      · rename_i hw; rw [if_neg hw] at h; exact ih _ h
  exact hmono l a h
/-! Regions that draw their order, read, and store at last. -/
structure TW (P : Program) (n : Nat) (ops : Array Oper) (w : World) (l : List Oper) (K : (Nat → Value) → Prop) (σ : Nat → Value) : Prop where
  h : ∀ a, Rp n a σ → wpStill P ops w (fun a => ∃ σ, Rp n a σ ∧ K σ) l a
theorem TW.nil {K : (Nat → Value) → Prop} (h : K σ) : TW P n ops w [] K σ := ⟨fun a ha => wpStill_nil ⟨σ, ha, h⟩⟩
theorem TW.kOp {K : (Nat → Value) → Prop} {o : Oper} (h : TW P n ops w (o :: rest) K σ) : TW P n ops w (o :: rest) K σ := h
theorem TW.op {K : (Nat → Value) → Prop} {d : Nat} {op : Op} {v : Value} (hd : Nat.blt d n = true)
    (hr : Yl P σ op ty w v w) (k : TW P n ops w rest K (upd σ d v)) :
    TW P n ops w (⟨some d, op, ty, pos, after, none⟩ :: rest) K σ := by
  constructor
  intro a ha
  refine wpStill_step fun K' hK => ?_
  simp only [Region.wanted, if_true]
  unfold Oper.still
  rw [ha.eval, hr.run]
  rw [Oper.stillUpon_value]
  exact hK _ (k.h _ (ha.put d v hd))
theorem CW.tail {id : Nat} {l : List Oper} (S : Now w0 Sn O w) (hl : lastStore l = true) (hm : P.follows .mixedOrders = true) (hB : Region.lexTailB .any l.toArray (l.length - 1) = true)
    (h : ∀ w, Now w0 Sn O w → TW P n l.toArray w (l.take (l.length - 1)) (fun σ' => LW P n l.toArray (l.drop (l.length - 1)) Q σ' w) σ) : CW P n (.region id l.toArray true) Q σ w := by
  constructor
  intro a ha
  refine wp_region_still_tail (l.length - 1) hm hB ?_
  have h1 := (h _ S.draw).h a ha
  have hmono : ∀ (l' : List Oper) (a : Act), wpStill P l.toArray { w with drawn := w.drawn + 1 } (fun a => ∃ σ, Rp n a σ ∧ LW P n l.toArray (l.drop (l.length - 1)) Q σ { w with drawn := w.drawn + 1 }) l' a → wpStill P l.toArray { w with drawn := w.drawn + 1 } (fun a' => wpList P l.toArray (lift n Q) (l.drop (l.length - 1)) a' { w with drawn := w.drawn + 1 }) l' a := by
    intro l'
    induction l' with
    | nil => intro a ⟨s, hs, hq⟩; exact hq.h a hs
    | cons o rest ih =>
      intro a h
      unfold wpStill at h ⊢
      split
      · rename_i hw; rw [if_pos hw] at h; exact Oper.still_mono (fun a => ih a) h
      · rename_i hw; rw [if_neg hw] at h; exact ih _ h
  exact hmono _ a h1
end
end V
end Go.Proofs.Ytoljdhdfijnjiaa
